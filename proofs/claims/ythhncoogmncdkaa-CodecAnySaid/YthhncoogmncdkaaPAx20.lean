import Derived.Test.YthhncoogmncdkaaPAx0
import Derived.Test.YthhncoogmncdkaaPAx3
-- written by the session's own program (wip/prt.py) over the kit's print: not print.sh's own text
namespace Go.Proofs.Ythhncoogmncdkaa.PA
open Go.RowKit Go.Proofs.YthhncoogmncdkaaW.PrintWords Go.Proofs.YthhncoogmncdkaaW.PrintLast Go.Proofs.YthhncoogmncdkaaW.PrintMore
attribute [local go_sem] max2_int min2_int max_two min_two max_three min_three max_four min_four   -- for this text's walks alone
set_option linter.unusedVariables false
set_option linter.unusedSimpArgs false

/-! ### matrix_Check: function 40 -/
mutual
def matrix_Check.j0 : Nat → List (List Int) → Bool → Option (Int)
  | 0, _, _ => none
  | k + 1, x0, x12 => if x12 = true then (some 30) else (matrix_Check.l0 k x0 x0 (x0.length : Int) 0)
def matrix_Check.l0 : Nat → List (List Int) → List (List Int) → Int → Int → Option (Int)
  | 0, _, _, _, _ => none
  | k + 1, x0, x13, x14, x15 => if x15 < x14 then (if 0 ≤ x15 then (if x15 < (x13.length : Int) then (if ((rd_L1 x13 x15).length : Int) < 1 then (some 30) else (if ((rd_L1 x13 x15).length : Int) > 32 then (some 30) else (if 0 < (x0.length : Int) then (if ((rd_L1 x13 x15).length : Int) = ((rd_L1 x0 0).length : Int) then (matrix_Check.l0 k x0 x13 x14 (wrap64 (x15 + 1))) else (some 30)) else (none)))) else (none)) else (none)) else (some 0)
end
def matrix_Check.f (k : Nat) (l0 : List (List Int)) : Option (Int) := if (l0.length : Int) < 1 then (matrix_Check.j0 k l0 true) else (matrix_Check.j0 k l0 (decide ((l0.length : Int) > 32)))
theorem matrix_Check.mono_l : ∀ k, (∀ y0 y1, LeO (matrix_Check.j0 k y0 y1) (matrix_Check.j0 (k + 1) y0 y1)) ∧ (∀ y0 y1 y2 y3, LeO (matrix_Check.l0 k y0 y1 y2 y3) (matrix_Check.l0 (k + 1) y0 y1 y2 y3))
  | 0 => ⟨fun _ _ r h => by simp [matrix_Check.j0] at h, fun _ _ _ _ r h => by simp [matrix_Check.l0] at h⟩
  | k + 1 => by
    obtain ⟨ih0, ih1⟩ := matrix_Check.mono_l k
    refine ⟨?_, ?_⟩
    · intro y0 y1
      unfold matrix_Check.j0
      repeat' first
      | (with_reducible exact ih0 _ _)
      | (with_reducible exact ih1 _ _ _ _)
      | (with_reducible exact LeO.refl _)
      | (with_reducible exact LeO.none _)
      | (with_reducible refine LeO.ite ?_ ?_)
      | (with_reducible refine LeO.bind ?_ (fun _ => ?_))
      | exact ih0 _ _
      | exact ih1 _ _ _ _
      | exact LeO.none _
      | refine LeO.ite ?_ ?_
      | refine LeO.bind ?_ (fun _ => ?_)
    · intro y0 y1 y2 y3
      unfold matrix_Check.l0
      repeat' first
      | (with_reducible exact ih0 _ _)
      | (with_reducible exact ih1 _ _ _ _)
      | (with_reducible exact LeO.refl _)
      | (with_reducible exact LeO.none _)
      | (with_reducible refine LeO.ite ?_ ?_)
      | (with_reducible refine LeO.bind ?_ (fun _ => ?_))
      | exact ih0 _ _
      | exact ih1 _ _ _ _
      | exact LeO.none _
      | refine LeO.ite ?_ ?_
      | refine LeO.bind ?_ (fun _ => ?_)
theorem matrix_Check.mono : ∀ a0 k, LeO (matrix_Check.f k a0) (matrix_Check.f (k + 1) a0) := by
  intro a0 k
  obtain ⟨ih0, ih1⟩ := matrix_Check.mono_l k
  unfold matrix_Check.f
  repeat' first
      | (with_reducible exact ih0 _ _)
      | (with_reducible exact ih1 _ _ _ _)
      | (with_reducible exact LeO.refl _)
      | (with_reducible exact LeO.none _)
      | (with_reducible refine LeO.ite ?_ ?_)
      | (with_reducible refine LeO.bind ?_ (fun _ => ?_))
      | exact ih0 _ _
      | exact ih1 _ _ _ _
      | exact LeO.none _
      | refine LeO.ite ?_ ?_
      | refine LeO.bind ?_ (fun _ => ?_)
set_option maxHeartbeats 8000000 in
set_option maxRecDepth 100000 in
theorem matrix_Check.calls (k : Nat) (A0 : Option Addr) (c0 : Nat) (l0 : List (List Int)) (r : Int) (w : World) (hr0 : Kd.C (Kd.slice 5 (Kd.int .u8)) w A0 l0.length l0) (hc0 : l0.length ≤ c0) (h : matrix_Check.f k l0 = some r) :
    Calls Try.prog 40 #[.slice A0 l0.length c0] w fun e w' => e = .returned (.int .i64 r) ∧ Drawn0 w w' := by
  have HR0 := Aside0.mk hr0
  have HC0 := Aside0.mk hc0
  clear hr0 hc0
  have H : (if (l0.length : Int) < 1 then (matrix_Check.j0 k l0 true) else (matrix_Check.j0 k l0 (decide ((l0.length : Int) > 32)))) = some r := h
  clear h
  have HC2 := Aside0.mk H
  clear H
  go_enter Try.func40, Try.ntmps40
  go_upto_region 1 with (fail)
  go_cut [12] (fun v12 wc => ∃ (kq : Nat) (x12_1 : Bool), v12 = .bool x12_1 ∧ Aside0 (matrix_Check.j0 kq l0 x12_1 = some r) ∧ Aside0 (kq ≤ k) ∧ Drawn0 w wc)
  case first =>
    have H := HC2.out
    clear HC2
    by_cases c3 : (l0.length : Int) < 1
    · rw [if_pos c3] at H
      have c3b0 : decide ((l0.length : Int) < 1) = true := decide_eq_true c3
      have c3b1 : decide (l0.length < 1) = true := decide_eq_true (by omega)
      clear c3
      (first | rw [c3b0] | (simp only [i64_w, i32_w]; rw [c3b0]) | skip)
      have H' := Aside0.mk H
      clear H
      go_wp2
      go_meet
      case rel => exact ⟨_, (true), (by first | rfl | (simp; done) | (simp [*]; done)), H', ⟨by first | omega | exact Nat.le_refl _⟩, by repeat (first | exact Drawn0.refl _ | apply Drawn0.step)⟩
    · rw [if_neg c3] at H
      have c3b0 : decide ((l0.length : Int) < 1) = false := decide_eq_false c3
      have c3b1 : decide (l0.length < 1) = false := decide_eq_false (by omega)
      clear c3
      (first | rw [c3b0] | (simp only [i64_w, i32_w]; rw [c3b0]) | skip)
      have H' := Aside0.mk H
      clear H
      go_wp2
      go_meet
      case rel => exact ⟨_, (decide ((l0.length : Int) > 32)), (by first | rfl | (simp; done) | (simp [*]; done)), H', ⟨by first | omega | exact Nat.le_refl _⟩, by repeat (first | exact Drawn0.refl _ | apply Drawn0.step)⟩
  case rest =>
    clear HC2
    try clear p2
    try clear c3
    try clear c3b0
    try clear c3b1
    obtain ⟨kq, x12_1, rfl, HA, HJ1, ⟨mc1, rfl⟩⟩ := hcut
    cases kq with
    | zero => exact absurd HA.out (by simp [matrix_Check.j0])
    | succ kj1 =>
      have H := HA.out
      clear HA
      simp only [matrix_Check.j0] at H
      by_cases c4 : x12_1 = true
      · subst c4
        have H1 : (some 30) = some r := by rw [if_pos rfl] at H; exact H
        clear H
        have H := H1
        clear H1
        obtain rfl := Option.some.inj H
        go_wp2
        go_ret
        exact ⟨by first | rfl | (simp; done) | (simp [*]; done), by repeat (first | exact Drawn0.refl _ | apply Drawn0.step)⟩
      · replace c4 := Bool.eq_false_iff.mpr c4
        subst c4
        have H1 : (matrix_Check.l0 kj1 l0 l0 (l0.length : Int) 0) = some r := by rw [if_neg (show ¬ (false = true) by decide)] at H; exact H
        clear H
        have H := H1
        clear H1
        have H' := Aside0.mk H
        clear H
        go_wp2
        go_loopg [15] kj1 (fun kq v15 w' => ∃ (x15_2 : Int), v15 = .int .i64 x15_2 ∧ Aside0 (matrix_Check.l0 kq l0 l0 (l0.length : Int) x15_2 = some r) ∧ Aside0 (kq ≤ kj1) ∧ Drawn0 w w')
        case atStart => exact ⟨(0), (by first | rfl | (simp; done) | (simp [*]; done)), H', ⟨Nat.le_refl _⟩, by repeat (first | exact Drawn0.refl _ | apply Drawn0.step)⟩
        case round =>
          clear H'
          try clear c1
          try clear p2
          try clear c3
          try clear c3b0
          try clear c3b1
          try clear c4
          try clear p2
          obtain ⟨x15_2, rfl, HA, HK2, ⟨m2, rfl⟩⟩ := hrel
          cases gk with
          | zero => exact absurd HA.out (by simp [matrix_Check.l0])
          | succ k2 =>
            have H := HA.out
            clear HA
            simp only [matrix_Check.l0] at H
            by_cases c5 : x15_2 < (l0.length : Int)
            · rw [if_pos c5] at H
              have c5b0 : decide (x15_2 < (l0.length : Int)) = true := decide_eq_true c5
              clear c5
              by_cases c6 : 0 ≤ x15_2
              · rw [if_pos c6] at H
                have c6b0 : decide (0 ≤ x15_2) = true := decide_eq_true c6
                clear c6
                by_cases c7 : x15_2 < (l0.length : Int)
                · rw [if_pos c7] at H
                  have c7b0 : decide (x15_2 < (l0.length : Int)) = true := decide_eq_true c7
                  clear c7
                  by_cases c8 : ((rd_L1 l0 x15_2).length : Int) < 1
                  · rw [if_pos c8] at H
                    have c8b0 : decide (((rd_L1 l0 x15_2).length : Int) < 1) = true := decide_eq_true c8
                    have c8b1 : decide ((rd_L1 l0 x15_2).length < 1) = true := decide_eq_true (by omega)
                    clear c8
                    obtain rfl := Option.some.inj H
                    have p118 : 0 ≤ (x15_2 : Int) := of_decide_eq_true (by first | (with_reducible assumption) | assumption)
                    have q118 : x15_2 < (l0.length : Int) := of_decide_eq_true (by first | (with_reducible assumption) | assumption)
                    obtain ⟨ad118, A118_0, c118_0, e118, hx118_0, hl118_0, hi118_0⟩ := at_L1 HR0.out x15_2 p118 q118
                    cases e118
                    have HR118_0 := Aside0.mk hi118_0
                    have HC118_0 := Aside0.mk hl118_0
                    clear hi118_0 hl118_0
                    replace p118 := eq_true p118
                    replace q118 := eq_true q118
                    go_wp2
                    go_ret
                    exact ⟨by first | rfl | (simp; done) | (simp [*]; done), by repeat (first | exact Drawn0.refl _ | apply Drawn0.step)⟩
                  · rw [if_neg c8] at H
                    have c8b0 : decide (((rd_L1 l0 x15_2).length : Int) < 1) = false := decide_eq_false c8
                    have c8b1 : decide ((rd_L1 l0 x15_2).length < 1) = false := decide_eq_false (by omega)
                    clear c8
                    by_cases c9 : ((rd_L1 l0 x15_2).length : Int) > 32
                    · rw [if_pos c9] at H
                      have c9b0 : decide (32 < ((rd_L1 l0 x15_2).length : Int)) = true := decide_eq_true c9
                      have c9b1 : decide (32 < (rd_L1 l0 x15_2).length) = true := decide_eq_true (by omega)
                      clear c9
                      obtain rfl := Option.some.inj H
                      have p118 : 0 ≤ (x15_2 : Int) := of_decide_eq_true (by first | (with_reducible assumption) | assumption)
                      have q118 : x15_2 < (l0.length : Int) := of_decide_eq_true (by first | (with_reducible assumption) | assumption)
                      obtain ⟨ad118, A118_0, c118_0, e118, hx118_0, hl118_0, hi118_0⟩ := at_L1 HR0.out x15_2 p118 q118
                      cases e118
                      have HR118_0 := Aside0.mk hi118_0
                      have HC118_0 := Aside0.mk hl118_0
                      clear hi118_0 hl118_0
                      replace p118 := eq_true p118
                      replace q118 := eq_true q118
                      go_wp2
                      go_ret
                      exact ⟨by first | rfl | (simp; done) | (simp [*]; done), by repeat (first | exact Drawn0.refl _ | apply Drawn0.step)⟩
                    · rw [if_neg c9] at H
                      have c9b0 : decide (32 < ((rd_L1 l0 x15_2).length : Int)) = false := decide_eq_false c9
                      have c9b1 : decide (32 < (rd_L1 l0 x15_2).length) = false := decide_eq_false (by omega)
                      clear c9
                      by_cases c10 : 0 < (l0.length : Int)
                      · rw [if_pos c10] at H
                        have c10b0 : decide (0 < (l0.length : Int)) = true := decide_eq_true c10
                        have c10b1 : decide (0 < l0.length) = true := decide_eq_true (by omega)
                        clear c10
                        by_cases c11 : ((rd_L1 l0 x15_2).length : Int) = ((rd_L1 l0 0).length : Int)
                        · rw [if_pos c11] at H
                          have c11b0 : (((rd_L1 l0 x15_2).length : Int) == ((rd_L1 l0 0).length : Int)) = true := beq_iff_eq.mpr c11
                          have c11b1 : (((rd_L1 l0 x15_2).length : Int) != ((rd_L1 l0 0).length : Int)) = false := bne_eq_false_iff_eq.mpr c11
                          have c11b2 : ((rd_L1 l0 x15_2).length == (rd_L1 l0 0).length) = true := by first | simpa using c11 | (simp at c11 ⊢; omega)
                          clear c11
                          have H' := Aside0.mk H
                          clear H
                          have p118 : 0 ≤ (x15_2 : Int) := of_decide_eq_true (by first | (with_reducible assumption) | assumption)
                          have q118 : x15_2 < (l0.length : Int) := of_decide_eq_true (by first | (with_reducible assumption) | assumption)
                          obtain ⟨ad118, A118_0, c118_0, e118, hx118_0, hl118_0, hi118_0⟩ := at_L1 HR0.out x15_2 p118 q118
                          cases e118
                          have HR118_0 := Aside0.mk hi118_0
                          have HC118_0 := Aside0.mk hl118_0
                          clear hi118_0 hl118_0
                          replace p118 := eq_true p118
                          replace q118 := eq_true q118
                          have p119 : 0 ≤ (0 : Int) := (by omega)
                          have q119 : 0 < (l0.length : Int) := of_decide_eq_true (by first | (with_reducible assumption) | assumption)
                          obtain ⟨ad119, A119_0, c119_0, e119, hx119_0, hl119_0, hi119_0⟩ := at_L1 HR0.out 0 p119 q119
                          obtain rfl : ad118 = ad119 := (by injection e119)
                          have qi119 : (0 < l0.length) = True := eq_true (by omega)
                          (try rw [show ((0 : Int)).toNat = 0 from rfl] at hx119_0)
                          (try rw [Addr.add_zero'] at hx119_0)
                          have HR119_0 := Aside0.mk hi119_0
                          have HC119_0 := Aside0.mk hl119_0
                          clear hi119_0 hl119_0
                          replace p119 := eq_true p119
                          replace q119 := eq_true q119
                          go_wp2
                          go_roundg k2
                          case measure => have := HJ1.out; have := HK2.out; omega
                          case rel => exact ⟨(wrap64 (x15_2 + 1)), (by first | rfl | (simp; done) | (simp [*]; done)), H', ⟨by have := HJ1.out; have := HK2.out; omega⟩, by repeat (first | exact Drawn0.refl _ | apply Drawn0.step)⟩
                        · rw [if_neg c11] at H
                          have c11b0 : (((rd_L1 l0 x15_2).length : Int) == ((rd_L1 l0 0).length : Int)) = false := beq_eq_false_iff_ne.mpr c11
                          have c11b1 : (((rd_L1 l0 x15_2).length : Int) != ((rd_L1 l0 0).length : Int)) = true := bne_iff_ne.mpr c11
                          have c11b2 : ((rd_L1 l0 x15_2).length == (rd_L1 l0 0).length) = false := by first | simpa using c11 | (simp at c11 ⊢; omega)
                          obtain rfl := Option.some.inj H
                          have p118 : 0 ≤ (x15_2 : Int) := of_decide_eq_true (by first | (with_reducible assumption) | assumption)
                          have q118 : x15_2 < (l0.length : Int) := of_decide_eq_true (by first | (with_reducible assumption) | assumption)
                          obtain ⟨ad118, A118_0, c118_0, e118, hx118_0, hl118_0, hi118_0⟩ := at_L1 HR0.out x15_2 p118 q118
                          cases e118
                          have HR118_0 := Aside0.mk hi118_0
                          have HC118_0 := Aside0.mk hl118_0
                          clear hi118_0 hl118_0
                          replace p118 := eq_true p118
                          replace q118 := eq_true q118
                          have p119 : 0 ≤ (0 : Int) := (by omega)
                          have q119 : 0 < (l0.length : Int) := of_decide_eq_true (by first | (with_reducible assumption) | assumption)
                          obtain ⟨ad119, A119_0, c119_0, e119, hx119_0, hl119_0, hi119_0⟩ := at_L1 HR0.out 0 p119 q119
                          obtain rfl : ad118 = ad119 := (by injection e119)
                          have qi119 : (0 < l0.length) = True := eq_true (by omega)
                          (try rw [show ((0 : Int)).toNat = 0 from rfl] at hx119_0)
                          (try rw [Addr.add_zero'] at hx119_0)
                          have HR119_0 := Aside0.mk hi119_0
                          have HC119_0 := Aside0.mk hl119_0
                          clear hi119_0 hl119_0
                          replace p119 := eq_true p119
                          replace q119 := eq_true q119
                          go_wp2
                          go_ret
                          exact ⟨by first | rfl | (simp; done) | (simp [*]; done), by repeat (first | exact Drawn0.refl _ | apply Drawn0.step)⟩
                      · rw [if_neg c10] at H
                        exact absurd H (by simp)
                · rw [if_neg c7] at H
                  exact absurd H (by simp)
              · rw [if_neg c6] at H
                exact absurd H (by simp)
            · rw [if_neg c5] at H
              have c5b0 : decide (x15_2 < (l0.length : Int)) = false := decide_eq_false c5
              clear c5
              obtain rfl := Option.some.inj H
              go_wp2
              go_ret
              exact ⟨by first | rfl | (simp; done) | (simp [*]; done), by repeat (first | exact Drawn0.refl _ | apply Drawn0.step)⟩

-- NOT PRINTED: function 63 (gf_table)

/-! ### gf_Pow: function 62 -/
def gf_Pow.f (a0 : Int) (a1 : Int) : Option (Int × Int) := if a1 = 0 then some (1, 0) else if a0 = 0 then (if a1 < 0 then some (0, 10) else some (0, 0)) else if 0 ≤ a0 ∧ a0 < 256 then some (powI (powIx (logI a0.toNat) a1).toNat, 0) else none
theorem gf_Pow.calls (a0 : Int) (a1 : Int) (r1 : Int) (r2 : Int) (w : World) (h : gf_Pow.f a0 a1 = some (r1, r2)) :
    Calls Try.prog 62 #[.int .u8 a0, .int .i64 a1] w fun e w' => e = .returned (.tuple #[.int .u8 r1, .int .i64 r2]) ∧ Below w.heap.size w w' := by
  unfold gf_Pow.f at h
  by_cases hn : a1 = 0
  · rw [if_pos hn] at h
    injection h with h
    injection h with h1 h2
    subst hn h1 h2
    exact pow_one a0 w
  rw [if_neg hn] at h
  by_cases hz : a0 = 0
  · rw [if_pos hz] at h
    subst hz
    by_cases hl : a1 < 0
    · rw [if_pos hl] at h
      injection h with h
      injection h with h1 h2
      subst h1 h2
      exact pow_neg a1 hl w
    · rw [if_neg hl] at h
      injection h with h
      injection h with h1 h2
      subst h1 h2
      exact pow_pos a1 (by omega) w
  · rw [if_neg hz] at h
    by_cases hb : 0 ≤ a0 ∧ a0 < 256
    · rw [if_pos hb] at h
      injection h with h
      injection h with h1 h2
      subst h1 h2
      exact pow_calls a0 a1 hb.1 hb.2 hz hn w
    · rw [if_neg hb] at h; cases h

/-! ### gf_Inv: function 55 -/
def gf_Inv.f (a0 : Int) : Option (Int × Int) := (gf_Pow.f a0 (-1)).bind fun bt120 => (some (bt120.1, bt120.2))
set_option maxHeartbeats 8000000 in
set_option maxRecDepth 100000 in
theorem gf_Inv.calls (a0 : Int) (r1 : Int) (r2 : Int) (w : World) (h : gf_Inv.f a0 = some (r1, r2)) :
    Calls Try.prog 55 #[.int .u8 a0] w fun e w' => e = .returned (.tuple #[.int .u8 r1, .int .i64 r2]) ∧ Below w.heap.size w w' := by
  have HB := Aside0.mk (Below.refl w.heap.size w)
  have H : ((gf_Pow.f a0 (-1)).bind fun bt120 => (some (bt120.1, bt120.2))) = some (r1, r2) := h
  clear h
  replace H := Option.bind_eq_some_iff.mp H
  obtain ⟨⟨t120, t121⟩, A20, H⟩ := H
  replace H : (some (t120, t121)) = some (r1, r2) := H
  have A2 := Aside0.mk A20
  clear A20
  simp only [Option.some.injEq, Prod.mk.injEq] at H
  obtain ⟨rfl, rfl⟩ := H
  go_enter Try.func55, Try.ntmps55
  go_wp2_with (first | ((with_reducible refine gate_callee (f := 62) rfl ?_); refine goesL_ (some 5) rfl rfl Try.func62 (by kernel_rfl) rfl #[.int .u8 a0, .int .i64 (-1)] rfl (by (try simp only [List.map_toArray, List.map_cons, List.map_nil]); first | done | rfl | (simp only [List.length_drop, List.length_take]; rfl)) ?_; (with_reducible refine (gf_Pow.calls a0 (-1) t120 t121 _ A2.out).mono ?_); rintro e w3 ⟨rfl, hb⟩; refine ⟨_, rfl, ?_⟩; have n0_ := Aside0.mk (below_step (by repeat (first | (with_reducible first | exact HB.out | apply below_alloc | apply pw_below_drewN | apply below_drew1) | exact HB.out)) hb); clear HB; have HB := n0_; clear n0_; (try clear hb); (try clear hb2); (try clear hk); (try clear hi)))
  go_ret2
  exact ⟨by first | rfl | (simp [errW_none, errW_some] <;> rfl) | (simp [*, errW_none, errW_some] <;> rfl), by repeat (first | (with_reducible first | exact HB.out | apply below_alloc | apply pw_below_drewN | apply below_drew1) | exact HB.out)⟩

end Go.Proofs.Ythhncoogmncdkaa.PA
-- written by the session's own program (wip/prt.py) over the kit's print: not print.sh's own text
namespace Go.Proofs.Ythhncoogmncdkaa.PA
open Go.RowKit Go.Proofs.YthhncoogmncdkaaW.PrintWords Go.Proofs.YthhncoogmncdkaaW.PrintLast Go.Proofs.YthhncoogmncdkaaW.PrintMore
attribute [local go_sem] max2_int min2_int max_two min_two max_three min_three max_four min_four   -- for this text's walks alone
set_option linter.unusedVariables false
set_option linter.unusedSimpArgs false

-- NOT PRINTED: function 52 (matrix_made)

/-! ### matrix_One: function 38 -/
def matrix_One.M (n : Nat) : List (List Int) := (List.range n).map (fun i => (List.range n).map (fun j => if i = j then (1 : Int) else 0))
def matrix_One.f (a0 : Int) : Option (List (List Int) × Int) := if a0 < 1 then some ([], 2) else if a0 > 32 then some ([], 2) else some (matrix_One.M a0.toNat, 0)
theorem matrix_One.lit (i j : Nat) (W : World) : Calls Try.prog 53 #[.int .i64 i, .int .i64 j] W fun e w' => e = .returned (.int .u8 (if i = j then (1 : Int) else 0)) ∧ Below W.heap.size W w' := by
  by_cases h : i = j
  · subst h
    have h1 : (((i : Int)) == (i : Int)) = true := beq_self_eq_true _
    go_enter Try.func53, Try.ntmps53
    go_wp2_with fail
    go_ret
    exact ⟨by simp, Below.refl _ _⟩
  · have h1 : (((i : Int)) == (j : Int)) = false := beq_eq_false_iff_ne.mpr (by omega)
    rw [if_neg h]
    clear h
    go_enter Try.func53, Try.ntmps53
    go_wp2_with fail
    go_ret
    exact ⟨rfl, Below.refl _ _⟩
theorem matrix_One.calls (a0 : Int) (r1 : List (List Int)) (r2 : Int) (w : World) (h : matrix_One.f a0 = some (r1, r2)) :
    Calls Try.prog 38 #[.int .i64 a0] w fun e w' => ∃ v0_ : Value, e = .returned (.tuple #[v0_, .int .i64 r2]) ∧ Kd.S (Kd.slice 5 (Kd.int .u8)) 23 w' w.heap.size (fun _ => True) v0_ r1 ∧ Below w.heap.size w w' := by
  unfold matrix_One.f at h
  by_cases h1 : a0 < 1
  · rw [if_pos h1] at h
    injection h with h; injection h with ha hb; subst ha hb
    go_enter Try.func38, Try.ntmps38
    go_wp2_with fail
    go_ret2
    exact ⟨_, rfl, Kd.S_nil _ _ _ _ _, Below.refl _ _⟩
  rw [if_neg h1] at h
  by_cases h2 : a0 > 32
  · rw [if_pos h2] at h
    injection h with h; injection h with ha hb; subst ha hb
    go_enter Try.func38, Try.ntmps38
    go_wp2_with fail
    go_ret2
    exact ⟨_, rfl, Kd.S_nil _ _ _ _ _, Below.refl _ _⟩
  rw [if_neg h2] at h
  injection h with h; injection h with ha hb; subst hb
  obtain ⟨n, rfl⟩ := Int.eq_ofNat_of_zero_le (show 0 ≤ a0 by omega)
  rw [Int.toNat_natCast] at ha
  have HA := Lib.hid ha
  have hX := made_One n n (fun i j => if i = j then 1 else 0) w (by omega) (by omega) (fun i j W _ _ _ => matrix_One.lit i j W)
  have HX := Lib.hid hX
  have hn : n ≤ 32 := by omega
  clear ha hX
  go_enter Try.func38, Try.ntmps38
  go_wp2_with fail
  refine HX.out.mono ?_
  rintro e w' ⟨b, rfl, hr, hb⟩
  have HR := Lib.hid hr
  have HB := Lib.hid hb
  clear hr hb
  go_wp2_with fail
  go_ret2
  refine ⟨_, rfl, ?_, HB.out⟩
  rw [← HA.out]
  exact HR.out.S (Nat.le_refl _) (by omega) (by omega)

/-! ### matrix_Cauchy: function 39 -/
def matrix_Cauchy.at_ (k : Int) (i j : Nat) : Int := Go.bits .xor .u8 (k + i) (j : Int)
def matrix_Cauchy.G (k : Int) (i j : Nat) : Int := ((gf_Inv.f (matrix_Cauchy.at_ k i j)).getD (0, 0)).1
def matrix_Cauchy.M (k r : Nat) : List (List Int) := (List.range r).map (fun (i : Nat) => (List.range k).map (fun (j : Nat) => matrix_Cauchy.G k i j))
def matrix_Cauchy.f (a0 a1 : Int) : Option (List (List Int) × Int) := if a0 < 1 then some ([], 2) else if a0 > 12 then some ([], 2) else if a1 < 1 then some ([], 2) else if a1 > 4 then some ([], 2) else if ∀ i, i < a1.toNat → ∀ j, j < a0.toNat → (gf_Inv.f (matrix_Cauchy.at_ a0 i j)).isSome = true then some (matrix_Cauchy.M a0.toNat a1.toNat, 0) else none
set_option maxHeartbeats 1000000 in
theorem matrix_Cauchy.lit (k : Int) (hk0 : 1 ≤ k) (hk1 : k ≤ 12) (g : Nat) (i j : Nat) (hi : i < 100) (hj : j < 100) (W : World) (hg : W.cell? ⟨g, 0, none⟩ = some (.int .i64 k)) (hs : (gf_Inv.f (matrix_Cauchy.at_ k i j)).isSome = true) :
    Calls Try.prog 54 #[.int .i64 i, .int .i64 j, .pointer (some ⟨g, 0, none⟩)] W fun e w' => e = .returned (.int .u8 (matrix_Cauchy.G k i j)) ∧ Below W.heap.size W w' := by
  obtain ⟨⟨x, y⟩, hx⟩ := Option.isSome_iff_exists.1 hs
  have HX := Lib.hid hx
  have HG := Lib.hid (show matrix_Cauchy.G k i j = x by unfold matrix_Cauchy.G; rw [hx]; rfl)
  have ha : gf_Add.f (k + i) (j : Int) = some (matrix_Cauchy.at_ k i j) := rfl
  have HA := Lib.hid ha
  have e2 : (j : Int) < 256 := by omega
  clear hs hx ha
  go_enter Try.func54, Try.ntmps54
  go_wp2_with fail
  refine (gf_Add.calls (k + i) (j : Int) (matrix_Cauchy.at_ k i j) _ HA.out).mono ?_
  rintro e w' ⟨rfl, ⟨nd, rfl⟩⟩
  go_wp2_with fail
  refine (gf_Inv.calls (matrix_Cauchy.at_ k i j) x y _ HX.out).mono ?_
  rintro e w' ⟨rfl, hb⟩
  have HB := Lib.hid (below_step (pw_below_drewN (Below.refl W.heap.size W) nd) hb)
  clear hb hg
  go_wp2_with fail
  go_ret
  exact ⟨by rw [HG.out]; rfl, HB.out⟩
set_option maxHeartbeats 4000000 in
theorem matrix_Cauchy.calls (a0 a1 : Int) (r1 : List (List Int)) (r2 : Int) (w : World) (h : matrix_Cauchy.f a0 a1 = some (r1, r2)) :
    Calls Try.prog 39 #[.int .i64 a0, .int .i64 a1] w fun e w' => ∃ v0_ : Value, e = .returned (.tuple #[v0_, .int .i64 r2]) ∧ Kd.S (Kd.slice 5 (Kd.int .u8)) 23 w' w.heap.size (fun _ => True) v0_ r1 ∧ Below w.heap.size w w' := by
  unfold matrix_Cauchy.f at h
  by_cases h1 : a0 < 1
  · rw [if_pos h1] at h
    injection h with h; injection h with ha hb; subst ha hb
    go_enter Try.func39, Try.ntmps39
    go_wp2_with fail
    go_ret2
    exact ⟨_, rfl, Kd.S_nil _ _ _ _ _, below_alloc (Below.refl _ _) _⟩
  rw [if_neg h1] at h
  by_cases h2 : a0 > 12
  · rw [if_pos h2] at h
    injection h with h; injection h with ha hb; subst ha hb
    have d1 : decide (a0 < 1) = false := decide_eq_false h1
    go_enter Try.func39, Try.ntmps39
    go_wp2_with fail
    go_ret2
    exact ⟨_, rfl, Kd.S_nil _ _ _ _ _, below_alloc (Below.refl _ _) _⟩
  rw [if_neg h2] at h
  by_cases h3 : a1 < 1
  · rw [if_pos h3] at h
    injection h with h; injection h with ha hb; subst ha hb
    have d1 : decide (a0 < 1) = false := decide_eq_false h1
    have d2 : decide (a0 > 12) = false := decide_eq_false h2
    go_enter Try.func39, Try.ntmps39
    go_wp2_with fail
    go_ret2
    exact ⟨_, rfl, Kd.S_nil _ _ _ _ _, below_alloc (Below.refl _ _) _⟩
  rw [if_neg h3] at h
  by_cases h4 : a1 > 4
  · rw [if_pos h4] at h
    injection h with h; injection h with ha hb; subst ha hb
    have d1 : decide (a0 < 1) = false := decide_eq_false h1
    have d2 : decide (a0 > 12) = false := decide_eq_false h2
    have d3 : decide (a1 < 1) = false := decide_eq_false h3
    go_enter Try.func39, Try.ntmps39
    go_wp2_with fail
    go_ret2
    exact ⟨_, rfl, Kd.S_nil _ _ _ _ _, below_alloc (Below.refl _ _) _⟩
  rw [if_neg h4] at h
  by_cases h5 : ∀ i, i < a1.toNat → ∀ j, j < a0.toNat → (gf_Inv.f (matrix_Cauchy.at_ a0 i j)).isSome = true
  case neg => rw [if_neg h5] at h; cases h
  rw [if_pos h5] at h
  injection h with h; injection h with ha hb; subst hb
  obtain ⟨k, rfl⟩ := Int.eq_ofNat_of_zero_le (show 0 ≤ a0 by omega)
  obtain ⟨r, rfl⟩ := Int.eq_ofNat_of_zero_le (show 0 ≤ a1 by omega)
  simp only [Int.toNat_natCast] at ha h5
  have HA := Lib.hid ha
  have HB := Lib.hid (below_alloc (Below.refl w.heap.size w) (.cells #[.int .i64 (k : Int)] 3))
  have HG := Lib.hid (blk_new w (.cells #[.int .i64 (k : Int)] 3))
  have hx0 : (w.alloc (.cells #[.int .i64 (k : Int)] 3)).cell? ⟨w.heap.size, 0, none⟩ = some (.int .i64 (k : Int)) := (blk_cell HG.out 0).trans rfl
  have hX := made_Cauchy r k (fun i j => matrix_Cauchy.G (k : Int) i j) (w.alloc (.cells #[.int .i64 (k : Int)] 3)) (by omega) (by omega) ⟨w.heap.size, 0, none⟩ (fun i j W hi hj hb => matrix_Cauchy.lit (k : Int) (by omega) (by omega) w.heap.size i j (by omega) (by omega) W ((hb.cell (p := ⟨w.heap.size, 0, none⟩) (by exact blk_lt HG.out)).trans hx0) (h5 i hi j hj))
  have HX := Lib.hid hX
  have hk : (k : Int) ≤ 12 := by omega
  have hr : (r : Int) ≤ 4 := by omega
  have hk1 : (1 : Int) ≤ k := by omega
  have hr1 : (1 : Int) ≤ r := by omega
  clear ha hX h5 h1 h2 h3 h4
  go_enter Try.func39, Try.ntmps39
  go_wp2_with fail
  refine HX.out.mono ?_
  rintro e w' ⟨b, rfl, hr, hb⟩
  have HR := Lib.hid hr
  have HB2 := Lib.hid (below_step HB.out hb)
  clear hr hb
  go_wp2_with fail
  go_ret2
  refine ⟨_, rfl, ?_, HB2.out⟩
  rw [← HA.out]
  have hs := HR.out.S HB.out.size (by omega) (by omega)
  simp only [sz] at hs
  exact hs

-- NOT PRINTED: function 23 (codec_made)

end Go.Proofs.Ythhncoogmncdkaa.PA
-- written by the session's own program (wip/prt.py) over the kit's print: not print.sh's own text
namespace Go.Proofs.Ythhncoogmncdkaa.PA
open Go.RowKit Go.Proofs.YthhncoogmncdkaaW.PrintWords Go.Proofs.YthhncoogmncdkaaW.PrintLast Go.Proofs.YthhncoogmncdkaaW.PrintMore
attribute [local go_sem] max2_int min2_int max_two min_two max_three min_three max_four min_four   -- for this text's walks alone
set_option linter.unusedVariables false
set_option linter.unusedSimpArgs false

/-! ### codec_Row: function 14 -/
/-- the rows of a code: the unit matrix, the parity below -/
def codec_Row.M (k r : Nat) : List (List Int) := matrix_One.M k ++ (if r = 0 then [] else matrix_Cauchy.M k r)
def codec_Row.bad (a0 a1 : Int) : Prop := a0 < 1 ∨ a0 > 12 ∨ a1 < 0 ∨ a1 > 4
instance codec_Row.dec1 (a0 a1 : Int) : Decidable (codec_Row.bad a0 a1) := by unfold codec_Row.bad; infer_instance
def codec_Row.inv (a0 a1 : Int) : Prop := ∀ i, i < a1.toNat → ∀ j, j < a0.toNat → (gf_Inv.f (matrix_Cauchy.at_ a0 i j)).isSome = true
instance codec_Row.dec2 (a0 a1 : Int) : Decidable (codec_Row.inv a0 a1) := by unfold codec_Row.inv; infer_instance
def codec_Row.f (a0 a1 a2 : Int) : Option (List Int × Int) := if in64 a0 ∧ in64 a1 ∧ in64 a2 then (if codec_Row.bad a0 a1 then some ([], 2) else if codec_Row.inv a0 a1 then (if 0 ≤ a2 ∧ a2 < a0 + a1 then some (rw_ (codec_Row.M a0.toNat a1.toNat) a2.toNat, 0) else some ([], 2)) else none) else none
theorem codec_Row.M_len (k r : Nat) : (codec_Row.M k r).length = k + r := by
  unfold codec_Row.M matrix_One.M
  by_cases h : r = 0
  · subst h; simp
  · rw [if_neg h]; simp [matrix_Cauchy.M]
theorem codec_Row.M_one {k r i : Nat} (h : i < k) : rw_ (codec_Row.M k r) i = rw_ (matrix_One.M k) i := by
  have hl : (matrix_One.M k).length = k := by simp [matrix_One.M]
  unfold codec_Row.M rw_
  rw [List.getD_eq_getElem?_getD, List.getD_eq_getElem?_getD, List.getElem?_append_left (by omega)]
theorem codec_Row.M_two {k r i : Nat} (h : i < r) : rw_ (codec_Row.M k r) (k + i) = rw_ (matrix_Cauchy.M k r) i := by
  have hl : (matrix_One.M k).length = k := by simp [matrix_One.M]
  unfold codec_Row.M rw_
  rw [if_neg (by omega), List.getD_eq_getElem?_getD, List.getD_eq_getElem?_getD, List.getElem?_append_right (by omega), hl, Nat.add_sub_cancel_left]
theorem codec_Row.in64_nat {i : Nat} (h : i ≤ 1000) : in64 (i : Int) := by unfold in64; simp only [Lit.wf, Bool.and_eq_true, decide_eq_true_eq]; exact ⟨Int.le_trans (b := 0) (by decide) (by omega), Int.le_trans (b := 1000) (by omega) (by decide)⟩
theorem codec_Row.keys {k r n i : Nat} (hk : k ≤ 12) (hr : r ≤ 4) (hi : i ≤ 16) : ∃ l, keyOf Try.prog 50 (pk k r i) = some l := pk_key (codec_Row.in64_nat (by omega)) (codec_Row.in64_nat (by omega)) (codec_Row.in64_nat (by omega))
theorem codec_Row.keys_ne {k r i j : Nat} (h : i ≠ j) : pk k r i ≠ pk k r j := fun z => h (by have := pk_inj z; omega)
theorem codec_Row.bad1 (a0 a1 : Int) (h : codec_Row.bad a0 a1) (w : World) : Calls Try.prog 23 #[.int .i64 a0, .int .i64 a1] w fun e w' => e = .returned (.map none) ∧ w = w' := by
  unfold codec_Row.bad at h
  by_cases h1 : a0 < 1
  · have d1 : decide (a0 < 1) = true := decide_eq_true h1
    clear h
    go_enter Try.func23, Try.ntmps23
    go_wp2_with fail
    go_ret
    exact ⟨rfl, rfl⟩
  have d1 : decide (a0 < 1) = false := decide_eq_false h1
  by_cases h2 : a0 > 12
  · have d2 : decide (a0 > 12) = true := decide_eq_true h2
    clear h
    go_enter Try.func23, Try.ntmps23
    go_wp2_with fail
    go_ret
    exact ⟨rfl, rfl⟩
  have d2 : decide (a0 > 12) = false := decide_eq_false h2
  by_cases h3 : a1 < 0
  · have d3 : decide (a1 < 0) = true := decide_eq_true h3
    clear h
    go_enter Try.func23, Try.ntmps23
    go_wp2_with fail
    go_ret
    exact ⟨rfl, rfl⟩
  have d3 : decide (a1 < 0) = false := decide_eq_false h3
  have d4 : decide (a1 > 4) = true := decide_eq_true (by omega)
  clear h
  go_enter Try.func23, Try.ntmps23
  go_wp2_with fail
  go_ret
  exact ⟨rfl, rfl⟩
set_option maxHeartbeats 4000000 in
set_option maxRecDepth 100000 in
theorem codec_Row.made (k r : Nat) (hk0 : 1 ≤ k) (hk : k ≤ 12) (hr : r ≤ 4) (hi : codec_Row.inv k r) (w : World) : Calls Try.prog 23 #[.int .i64 k, .int .i64 r] w fun e w' => ∃ (g : Nat) (val : Nat → Value), e = .returned (.map (some g)) ∧
      MapIs w' g (k + r) (fun i => pk k r i) val ∧ (∀ i, i < k + r → Kd.R (Kd.int .u8) 5 w' w.heap.size (fun _ => True) (val i) (rw_ (codec_Row.M k r) i)) ∧ Below w.heap.size w w' := by
  have hmm := @run_makeMap Try.prog
  have h1 : ¬ (k : Int) < 1 := by omega
  have h2 : ¬ (k : Int) > 12 := by omega
  have h3 : ¬ (r : Int) < 0 := by omega
  have h4 : ¬ (r : Int) > 4 := by omega
  have d1 : decide ((k : Int) < 1) = false := decide_eq_false h1
  have d2 : decide ((k : Int) > 12) = false := decide_eq_false h2
  have d3 : decide ((r : Int) < 0) = false := decide_eq_false h3
  have d4 : decide ((r : Int) > 4) = false := decide_eq_false h4
  have ho : matrix_One.f (k : Int) = some (matrix_One.M k, 0) := by
    unfold matrix_One.f; rw [if_neg (by omega), if_neg (by omega), Int.toNat_natCast]
  have HO := Lib.hid ho
  have HK := Lib.hid hk
  have HR := Lib.hid hr
  have HI := Lib.hid hi
  have HK0 := Lib.hid hk0
  clear ho hi h1 h2 h3 h4 hk hr hk0
  go_enter Try.func23, Try.ntmps23
  go_wp2_with fail
  have HB := Lib.hid (below_alloc (Below.refl w.heap.size w) (.map #[] 0))
  have HMP := Lib.hid (MapIs.new w (fun i => pk k r i) (fun _ => undef))
  generalize w.alloc (.map #[] 0) = w1 at HB HMP ⊢
  have HGE := Lib.hid (Nat.le_refl w.heap.size)
  have HGL := Lib.hid HMP.out.lt
  generalize hgq : w.heap.size = g at HMP HGE HGL ⊢
  rw [← hgq] at HGE
  have HGQ := Lib.hid hgq
  clear hgq
  refine (matrix_One.calls (k : Int) (matrix_One.M k) 0 _ HO.out).mono ?_
  rintro e' w2 ⟨v1, rfl, ho, hb⟩
  have hkk := HK0.out
  obtain ⟨g1, cap1, b1, c1, rfl, -, hM⟩ := Mat.of_S (m := k) ho (by simp [matrix_One.M]) (by simp [matrix_One.M]; omega) hkk
  have hml : (matrix_One.M k).length = k := by simp [matrix_One.M]
  rw [hml]
  have HM := Lib.hid (hM.mono (S' := fun q => g < q ∧ w.heap.size ≤ q) (fun q hq => ⟨Nat.lt_of_lt_of_le HGL.out hq, Nat.le_trans HB.out.size hq⟩))
  have HML := Lib.hid hml
  replace HMP := Lib.hid (HMP.out.below hb)
  replace HB := Lib.hid (below_step HB.out hb)
  clear ho hb hM hkk hml HGL
  go_wp2_with fail
  go_loopg [8, 9, 36] k (fun gk s8 s9 s36 wx => ∃ i : Nat, i + gk = k ∧ s36 = .int .i64 i ∧ Hid (MapIs wx g i (fun i => pk k r i) (fun i => .slice (some ⟨b1 i, 0, none⟩) k (c1 i))) ∧ Hid (Mat wx (fun q => g < q ∧ w.heap.size ≤ q) g1 cap1 b1 c1 (matrix_One.M k) k) ∧ Hid (Below w.heap.size w wx))
  case atStart => exact ⟨0, by omega, rfl, Lib.hid (HMP.out.congr (fun i hi => absurd hi (by omega))), HM, HB⟩
  case round =>
    clear HMP HM HB
    obtain ⟨i, hig, rfl, HMP, HM, HB⟩ := hrel
    have hle : (i : Int) ≤ (k : Int) := by omega
    cases gk with
    | succ d =>
      have hlt : (i : Int) < (k : Int) := by omega
      have hx := HM.out.out (i := i) (by rw [HML.out]; omega)
      obtain ⟨o, hput, hnew⟩ := HMP.out.put (fun j hj => codec_Row.keys (n := 0) HK.out HR.out (by have := HK.out; omega)) (fun j hj => codec_Row.keys_ne (by omega))
      have HN := Lib.hid hnew
      have HM2 := Lib.hid (HM.out.keep (W' := ChangeMaps.setBlock wr g o) (fun q hq => put_other (by have := hq.1; omega) o HMP.out.lt))
      have HB2 := Lib.hid (put_below HB.out (Nat.le_of_eq HGQ.out) o HMP.out.lt)
      simp only [pk] at hput
      have hw : wrap64 ((i : Int) + 1) = ((i + 1 : Nat) : Int) := by have := HK.out; unfold wrap64; omega
      have HW := Lib.hid hw
      clear hnew hw HMP HM HB hle
      go_wp2_with fail
      go_roundg d
      case measure => omega
      case rel => exact ⟨i + 1, by omega, by rw [HW.out], HN, HM2, HB2⟩
    | zero =>
      obtain rfl : i = k := by omega
      clear hle hig
      by_cases hr0 : r = 0
      case pos =>
        subst hr0
        have d5 : decide (((0 : Nat) : Int) > 0) = false := by decide
        go_wp2_with fail
        go_ret
        refine ⟨g, _, rfl, HMP.out, fun q hq => ?_, HB.out⟩
        rw [codec_Row.M_one (by omega)]
        exact Kd.R_mono (HM.out.R (i := q) (by rw [HML.out]; omega) (HM.out.2.2.1 q (by rw [HML.out]; omega)).2.1.2) (fun _ _ => trivial)
      have d5 : decide ((r : Int) > 0) = true := decide_eq_true (by omega)
      have d6 : (0 : Int) < (r : Int) := by omega
      have hc : matrix_Cauchy.f (i : Int) (r : Int) = some (matrix_Cauchy.M i r, 0) := by
        have := HR.out; have := HK.out; have := HK0.out
        unfold matrix_Cauchy.f; rw [if_neg (by omega), if_neg (by omega), if_neg (by omega), if_neg (by omega), if_pos (by simpa [codec_Row.inv] using HI.out)]; simp
      have HC := Lib.hid hc
      have HR0 := Lib.hid hr0
      clear hc hr0
      go_wp2_with fail
      refine (matrix_Cauchy.calls (i : Int) (r : Int) (matrix_Cauchy.M i r) 0 _ HC.out).mono ?_
      rintro e' w3 ⟨v2, rfl, ho, hb⟩
      have hkk := HK0.out
      have hcl : (matrix_Cauchy.M i r).length = r := by simp [matrix_Cauchy.M]
      obtain ⟨g2, cap2, b2, c2, rfl, -, hM⟩ := Mat.of_S (m := i) ho (by simp [matrix_Cauchy.M]) (by have := HR0.out; omega) hkk
      rw [hcl]
      have HM2 := Lib.hid (hM.mono (S' := fun q => g < q ∧ w.heap.size ≤ q) (fun q hq => ⟨Nat.lt_of_lt_of_le HMP.out.lt hq, Nat.le_trans HB.out.size hq⟩))
      have HCL := Lib.hid hcl
      replace HMP := Lib.hid (HMP.out.below hb)
      replace HM := Lib.hid (HM.out.below hb)
      replace HB := Lib.hid (below_step HB.out hb)
      clear ho hb hM hkk hcl
      go_wp2_with fail
      go_loopg [12, 13, 58] r (fun gk s12 s13 s58 wx => ∃ j : Nat, j + gk = r ∧ s58 = .int .i64 j ∧ Hid (MapIs wx g (i + j) (fun q => pk i r q) (fun q => if q < i then .slice (some ⟨b1 q, 0, none⟩) i (c1 q) else .slice (some ⟨b2 (q - i), 0, none⟩) i (c2 (q - i)))) ∧ Hid (Mat wx (fun q => g < q ∧ w.heap.size ≤ q) g1 cap1 b1 c1 (matrix_One.M i) i) ∧ Hid (Mat wx (fun q => g < q ∧ w.heap.size ≤ q) g2 cap2 b2 c2 (matrix_Cauchy.M i r) i) ∧ Hid (Below w.heap.size w wx))
      case atStart => exact ⟨0, by omega, rfl, Lib.hid (HMP.out.congr (fun q hq => by rw [if_pos (by omega)])), HM, HM2, HB⟩
      case round =>
        clear HMP HM HM2 HB
        obtain ⟨j, hjg, rfl, HMP, HM, HM2, HB⟩ := hrel
        have hle : (j : Int) ≤ (r : Int) := by omega
        cases gk with
        | succ d =>
          have hlt : (j : Int) < (r : Int) := by omega
          have hx := HM2.out.out (i := j) (by rw [HCL.out]; omega)
          obtain ⟨o, hput, hnew⟩ := HMP.out.put (fun q hq => codec_Row.keys (n := 0) HK.out HR.out (by have := HK.out; have := HR.out; omega)) (fun q hq => codec_Row.keys_ne (by omega))
          have HN := Lib.hid hnew
          have HM3 := Lib.hid (HM.out.keep (W' := ChangeMaps.setBlock wr g o) (fun q hq => put_other (by have := hq.1; omega) o HMP.out.lt))
          have HM4 := Lib.hid (HM2.out.keep (W' := ChangeMaps.setBlock wr g o) (fun q hq => put_other (by have := hq.1; omega) o HMP.out.lt))
          have HB2 := Lib.hid (put_below HB.out (Nat.le_of_eq HGQ.out) o HMP.out.lt)
          simp only [pk] at hput
          rw [if_neg (by omega), show i + j - i = j by omega, show ((i + j : Nat) : Int) = (i : Int) + (j : Int) by omega] at hput
          have hw : wrap64 ((j : Int) + 1) = ((j + 1 : Nat) : Int) := by have := HR.out; unfold wrap64; omega
          have hw2 : wrap64 ((i : Int) + (j : Int)) = (i : Int) + (j : Int) := by have := HR.out; have := HK.out; unfold wrap64; omega
          have hb1 : (i : Int) ≤ 12 := by have := HK.out; omega
          have hb2 : (r : Int) ≤ 4 := by have := HR.out; omega
          have HW := Lib.hid hw
          clear hnew hw hw2 HMP HM HM2 HB hle
          go_wp2_with fail
          go_roundg d
          case measure => omega
          case rel => exact ⟨j + 1, by omega, by first | rw [HW.out] | (simp; done), HN, HM3, HM4, HB2⟩
        | zero =>
          obtain rfl : j = r := by omega
          go_wp2_with fail
          go_ret
          refine ⟨g, _, rfl, HMP.out, fun q hq => ?_, HB.out⟩
          by_cases hqi : q < i
          · rw [codec_Row.M_one hqi, if_pos hqi]
            exact Kd.R_mono (HM.out.R (i := q) (by rw [HML.out]; omega) (HM.out.2.2.1 q (by rw [HML.out]; omega)).2.1.2) (fun _ _ => trivial)
          · obtain ⟨p, rfl⟩ : ∃ p, q = i + p := ⟨q - i, by omega⟩
            rw [codec_Row.M_two (by omega), if_neg hqi, show i + p - i = p by omega]
            exact Kd.R_mono (HM2.out.R (i := p) (by rw [HCL.out]; omega) (HM2.out.2.2.1 p (by rw [HCL.out]; omega)).2.1.2) (fun _ _ => trivial)
theorem codec_Row.zero (w : World) : (zeroValue 23).run Try.prog w = .ok (.slice none 0 0) w := by kernel_rfl
theorem codec_Row.calls (a0 a1 a2 : Int) (r1 : List Int) (r2 : Int) (w : World) (h : codec_Row.f a0 a1 a2 = some (r1, r2)) :
    Calls Try.prog 14 #[.int .i64 a0, .int .i64 a1, .int .i64 a2] w fun e w' => ∃ v0_ : Value, e = .returned (.tuple #[v0_, .int .i64 r2]) ∧ Kd.R (Kd.int .u8) 5 w' w.heap.size (fun _ => True) v0_ r1 ∧ Below w.heap.size w w' := by
  unfold codec_Row.f at h
  by_cases h64 : in64 a0 ∧ in64 a1 ∧ in64 a2
  case neg => rw [if_neg h64] at h; cases h
  rw [if_pos h64] at h
  have hkey := pk_key h64.1 h64.2.1 h64.2.2
  by_cases hb : codec_Row.bad a0 a1
  · rw [if_pos hb] at h
    injection h with h; injection h with ha hc; subst ha hc
    have HBAD := Lib.hid hb
    have HL := Lib.hid (fun W : World => look_nil W (.slice none 0 0) (codec_Row.zero W) true hkey)
    clear hb hkey h64
    go_enter Try.func14, Try.ntmps14
    go_wp2_with fail
    refine (codec_Row.bad1 a0 a1 HBAD.out _).mono ?_
    rintro e' w1 ⟨rfl, rfl⟩
    have hl := HL.out w
    simp only [pk, if_true] at hl
    go_wp2_with fail
    go_ret2
    exact ⟨_, rfl, Kd.R_nil _ _ _ _ _, Below.refl _ _⟩
  rw [if_neg hb] at h
  by_cases hi : codec_Row.inv a0 a1
  case neg => rw [if_neg hi] at h; cases h
  rw [if_pos hi] at h
  unfold codec_Row.bad at hb
  obtain ⟨k, rfl⟩ := Int.eq_ofNat_of_zero_le (show 0 ≤ a0 by omega)
  obtain ⟨r, rfl⟩ := Int.eq_ofNat_of_zero_le (show 0 ≤ a1 by omega)
  simp only [Int.toNat_natCast] at h
  have hk0 : 1 ≤ k := by omega
  have hk : k ≤ 12 := by omega
  have hr : r ≤ 4 := by omega
  have HI := Lib.hid hi
  have HK0 := Lib.hid hk0
  have HK := Lib.hid hk
  have HR := Lib.hid hr
  have HKEY := Lib.hid hkey
  have H := Lib.hid h
  clear hb hi hkey h64 hk0 hk hr h
  go_enter Try.func14, Try.ntmps14
  go_wp2_with fail
  refine (codec_Row.made k r HK0.out HK.out HR.out HI.out _).mono ?_
  rintro e' w1 ⟨g, val, rfl, hmp, hrow, hb⟩
  have HB := Lib.hid hb
  rcases hmp.look (fun i hi => codec_Row.keys (n := 0) HK.out HR.out (by have := HK.out; have := HR.out; omega)) (.slice none 0 0) (codec_Row.zero w1) true HKEY.out with ⟨i, hi, hx, hl⟩ | ⟨hno, hl⟩
  · have e2 := pk_inj hx
    subst e2
    have h := H.out
    rw [if_pos ⟨by omega, by omega⟩, Int.toNat_natCast] at h
    injection h with h; injection h with ha hc; subst ha hc
    have HRW := Lib.hid (hrow i hi)
    simp only [pk, if_true] at hl
    clear hmp hrow hb hx H
    go_wp2_with fail
    go_ret2
    exact ⟨_, rfl, HRW.out, HB.out⟩
  · have h := H.out
    rw [if_neg (fun z => hno a2.toNat (by omega) (by rw [show ((a2.toNat : Nat) : Int) = a2 by omega]))] at h
    injection h with h; injection h with ha hc; subst ha hc
    simp only [pk, if_true] at hl
    clear hmp hrow hb hno H
    go_wp2_with fail
    go_ret2
    exact ⟨_, rfl, Kd.R_nil _ _ _ _ _, HB.out⟩

end Go.Proofs.Ythhncoogmncdkaa.PA
-- written by the session's own program (wip/prt.py) over the kit's print: not print.sh's own text
namespace Go.Proofs.Ythhncoogmncdkaa.PA
open Go.RowKit Go.Proofs.YthhncoogmncdkaaW.PrintWords Go.Proofs.YthhncoogmncdkaaW.PrintLast Go.Proofs.YthhncoogmncdkaaW.PrintMore
attribute [local go_sem] max2_int min2_int max_two min_two max_three min_three max_four min_four   -- for this text's walks alone
set_option linter.unusedVariables false
set_option linter.unusedSimpArgs false

/-! ### matrix_times: function 56 -/
def matrix_times.l0 : Nat → List Int → Int → Int → Int → Option (List Int)
  | 0, _, _, _, _ => none
  | k + 1, x0, x1, x6, x7 => if x7 < x6 then (if 0 ≤ x7 then (if x7 < (x0.length : Int) then ((gf_Mul.f k (rd x0 x7) x1).bind fun t123 => (matrix_times.l0 k (x0.set (x7 : Int).toNat t123) x1 x6 (wrap64 (x7 + 1)))) else (none)) else (none)) else (some x0)
def matrix_times.f (k : Nat) (l0 : List Int) (a1 : Int) : Option (List Int) := matrix_times.l0 k l0 a1 (l0.length : Int) 0
theorem matrix_times.mono_l : ∀ k, (∀ y0 y1 y2 y3, LeO (matrix_times.l0 k y0 y1 y2 y3) (matrix_times.l0 (k + 1) y0 y1 y2 y3))
  | 0 => fun _ _ _ _ r h => by simp [matrix_times.l0] at h
  | k + 1 => by
    have ih0 := matrix_times.mono_l k
    · intro y0 y1 y2 y3
      unfold matrix_times.l0
      repeat' first
      | (with_reducible exact ih0 _ _ _ _)
      | (with_reducible exact gf_Mul.mono _ _ _)
      | (with_reducible exact LeO.refl _)
      | (with_reducible exact LeO.none _)
      | (with_reducible refine LeO.ite ?_ ?_)
      | (with_reducible refine LeO.bind ?_ (fun _ => ?_))
      | exact ih0 _ _ _ _
      | exact gf_Mul.mono _ _ _
      | exact LeO.none _
      | refine LeO.ite ?_ ?_
      | refine LeO.bind ?_ (fun _ => ?_)
theorem matrix_times.mono : ∀ a0 a1 k, LeO (matrix_times.f k a0 a1) (matrix_times.f (k + 1) a0 a1) := by
  intro a0 a1 k
  have ih0 := matrix_times.mono_l k
  unfold matrix_times.f
  repeat' first
      | (with_reducible exact ih0 _ _ _ _)
      | (with_reducible exact gf_Mul.mono _ _ _)
      | (with_reducible exact LeO.refl _)
      | (with_reducible exact LeO.none _)
      | (with_reducible refine LeO.ite ?_ ?_)
      | (with_reducible refine LeO.bind ?_ (fun _ => ?_))
      | exact ih0 _ _ _ _
      | exact gf_Mul.mono _ _ _
      | exact LeO.none _
      | refine LeO.ite ?_ ?_
      | refine LeO.bind ?_ (fun _ => ?_)
set_option maxHeartbeats 8000000 in
set_option maxRecDepth 100000 in
theorem matrix_times.calls (k : Nat) (P0_ : Nat → Prop) (u9000_ : Value) (l0 : List Int) (a1 : Int) (r : List Int) (w0 w : World) (hB : Below w0.heap.size w0 w) (ho0 : Kd.R (Kd.int .u8) 5 w w0.heap.size P0_ u9000_ l0) (h : matrix_times.f k l0 a1 = some r) :
    Calls Try.prog 56 #[u9000_, .int .u8 a1] w fun e w' => e = .returned (.tuple #[]) ∧ Kd.R (Kd.int .u8) 5 w' w0.heap.size (fun k_ => (P0_ k_ ∨ w.heap.size ≤ k_)) u9000_ r ∧ Below w0.heap.size w0 w' ∧ Kept w w' (fun k_ => P0_ k_) := by
  have HO0 := Aside0.mk (show Kd.R (Kd.int .u8) 5 w w0.heap.size (fun k_ => (P0_ k_ ∨ w.heap.size ≤ k_)) u9000_ l0 from Kd.R_mono ho0 (fun k_ hk => (.inl hk)))
  have HK := Aside0.mk (Kept.refl w (fun k_ => P0_ k_))
  have HW0 := Aside0.mk hB.size
  have HB := Aside0.mk hB
  clear hB
  have H : (matrix_times.l0 k l0 a1 (l0.length : Int) 0) = some r := h
  clear h
  have H' := Aside0.mk H
  clear H
  obtain ⟨Ao3, co3, eo3⟩ := Kd.R_slice HO0.out
  subst eo3
  go_enter Try.func56, Try.ntmps56
  go_wp2
  go_loopg [7] k (fun kq v7 w' => ∃ (x0_1 : List Int) (x7_1 : Int), v7 = .int .i64 x7_1 ∧ Aside0 (matrix_times.l0 kq x0_1 a1 (l0.length : Int) x7_1 = some r) ∧ Aside0 (kq ≤ k) ∧ Aside0 (Kd.R (Kd.int .u8) 5 w' w0.heap.size (fun k_ => (P0_ k_ ∨ w.heap.size ≤ k_)) (.slice Ao3 l0.length co3) x0_1) ∧ Aside0 (Kept w w' (fun k_ => P0_ k_)) ∧ Aside0 (Below w0.heap.size w0 w'))
  case atStart => exact ⟨(l0), (0), (by first | rfl | (simp; done) | (simp [*]; done)), H', ⟨Nat.le_refl _⟩, ⟨by (with_reducible repeat (first | apply Kd.R_alloc | apply Kd.R_drewN | apply Kd.R_drew)); exact HO0.out⟩, ⟨by repeat (first | (with_reducible first | exact HK.out | apply Kept.alloc | apply Kept.drewN | apply Kept.drew) | exact HK.out)⟩, ⟨by repeat (first | (with_reducible first | exact HB.out | apply below_alloc | apply pw_below_drewN | apply below_drew1) | exact HB.out)⟩⟩
  case round =>
    clear H'
    try clear p2
    obtain ⟨x0_1, x7_1, rfl, HA, HK1, HO_0, HK, HB⟩ := hrel
    have hl0_1 := (Kd.R_reads' HO_0.out).1
    rw [hl0_1] at HO_0
    (try simp only [hl0_1])
    cases gk with
    | zero => exact absurd HA.out (by simp [matrix_times.l0])
    | succ k1 =>
      have H := HA.out
      clear HA
      simp only [matrix_times.l0] at H
      by_cases c4 : x7_1 < (l0.length : Int)
      · rw [if_pos c4] at H
        have c4b0 : decide (x7_1 < (l0.length : Int)) = true := decide_eq_true c4
        (try have c4b0L := c4b0); (try simp only [hl0_1] at c4b0L)
        clear c4
        by_cases c5 : 0 ≤ x7_1
        · rw [if_pos c5] at H
          have c5b0 : decide (0 ≤ x7_1) = true := decide_eq_true c5
          clear c5
          by_cases c6 : x7_1 < (x0_1.length : Int)
          · rw [if_pos c6] at H
            have c6b0 : decide (x7_1 < (x0_1.length : Int)) = true := decide_eq_true c6
            clear c6
            replace H := Option.bind_eq_some_iff.mp H
            obtain ⟨t123, A70, H⟩ := H
            replace H : (matrix_times.l0 k1 (x0_1.set (x7_1 : Int).toNat t123) a1 (l0.length : Int) (wrap64 (x7_1 + 1))) = some r := H
            have A7 := Aside0.mk A70
            clear A70
            obtain ⟨y124, hy124⟩ : ∃ y_ : List Int, y_ = (x0_1.set (x7_1 : Int).toNat t123) := ⟨_, rfl⟩
            replace H : (matrix_times.l0 k1 y124 a1 (l0.length : Int) (wrap64 (x7_1 + 1))) = some r := by first | (rw [hy124]; with_reducible exact H) | (have H2_ := (Option.bind_some _ _).symm.trans H; rw [hy124]; with_reducible exact H2_) | (have H2_ := (Option.bind_some _ _).symm.trans H; with_reducible exact H2_) | with_reducible exact H | (rw [hy124]; exact H) | exact H
            have Ny124 := Aside0.mk hy124
            clear hy124
            have H' := Aside0.mk H
            clear H
            have p122 : 0 ≤ (x7_1 : Int) := of_decide_eq_true (by first | (with_reducible assumption) | assumption)
            have q122 : x7_1 < (x0_1.length : Int) := of_decide_eq_true (by first | (with_reducible assumption) | assumption)
            obtain ⟨ad122, e122, hx122_0⟩ := Kd.at_int (Kd.R_reads' HO_0.out).2.2 x7_1 p122 q122
            cases e122
            replace p122 := eq_true p122
            replace q122 := eq_true q122
            go_wp2_with (first | ((with_reducible refine gate_callee (f := 49) rfl ?_); refine goesL_ (some 17) rfl rfl Try.func49 (by kernel_rfl) rfl #[.int .u8 (rd x0_1 x7_1), .int .u8 a1] rfl (by (try simp only [List.map_toArray, List.map_cons, List.map_nil]); first | done | rfl | (simp only [List.length_drop, List.length_take]; rfl)) ?_; (with_reducible refine (gf_Mul.calls k1 (rd x0_1 x7_1) a1 t123 _ A7.out).mono ?_); rintro e w' ⟨rfl, ⟨nd, rfl⟩⟩; refine ⟨_, rfl, ?_⟩; (try (rw [drewN_self wr]; generalize hq_ : World.drewN wr _ = wr; have n0_ : Aside0 (Kd.R (Kd.int .u8) 5 wr w0.heap.size (fun k_ => (P0_ k_ ∨ w.heap.size ≤ k_)) (.slice (some ad122) x0_1.length co3) x0_1) := ⟨by rw [← hq_]; exact (by (with_reducible repeat (first | apply Kd.R_alloc | apply Kd.R_drewN | apply Kd.R_drew)); exact HO_0.out)⟩; have n1_ : Aside0 (Kept w wr (fun k_ => P0_ k_)) := ⟨by rw [← hq_]; exact (by repeat (first | (with_reducible first | exact HK.out | apply Kept.alloc | apply Kept.drewN | apply Kept.drew) | exact HK.out))⟩; have n2_ : Aside0 (Below w0.heap.size w0 wr) := ⟨by rw [← hq_]; exact (by repeat (first | (with_reducible first | exact HB.out | apply below_alloc | apply pw_below_drewN | apply below_drew1) | exact HB.out))⟩; clear HO_0 HK HB hq_; have HO_0 := n0_; have HK := n1_; have HB := n2_; clear n0_ n1_ n2_)); have p8 : 0 ≤ (x7_1 : Int) := of_decide_eq_true (by first | (with_reducible assumption) | assumption); have q8 : (x7_1 : Int) < ((x0_1.length : Int) : Int) := of_decide_eq_true (by first | (with_reducible assumption) | assumption); obtain ⟨go8, co8, eo8, gb8, gl8, cl8, HG8⟩ := Kd.R_form HO_0.out (by omega); (first | cases eo8 | (injection eo8 with ea_ en_ ec_; (first | subst ea_ | (injection ea_ with ea_; subst ea_)); subst ec_; clear en_)); have GB8 := Aside0.mk gb8; have GG8 := Aside0.mk HG8; clear gb8 gl8 HG8; have HMgo8 := Aside0.mk (show (P0_ go8 ∨ w.heap.size ≤ go8) from (HO_0.out.1 _ rfl)); (first | simp only [add_plain] at hx122_0 | skip); obtain ⟨hx8_0, hf8_0⟩ := Kd.R_celln 0 HO_0.out (x7_1 : Int) p8 q8; replace p8 := eq_true p8; replace q8 := eq_true q8; obtain ⟨hy9_, hz9_⟩ := Kd.R_celln 0 HO_0.out (x7_1 : Int) (of_decide_eq_true (by first | (with_reducible assumption) | assumption)) (of_decide_eq_true (by first | (with_reducible assumption) | assumption)); have HP9 := Kd.R_putg HO_0.out (x7_1 : Int) t123) | ((with_reducible refine gate_store (t := 5) (p := 18) rfl ?_); refine store_event (t := 5) (p := 18) (v := ?vo_w10) (w1 := (wr.setCell ⟨go8, (x7_1 : Int).toNat, none⟩ (.int .u8 t123))) ?hg ?ho ?hn ?hr ?_; (case ho => rfl); (case hg => rfl); (case hn => rfl); (case hr => first | (go_simp; done) | (go_simp; rfl)); intro w10 hw; have hg : wr.grownBy w10 (some go8) := (by rw [hw]; exact HP9.2); have hp_ : Kd.R (Kd.int .u8) 5 w10 w0.heap.size (fun k_ => (P0_ k_ ∨ w.heap.size ≤ k_)) (.slice (some ⟨go8, 0, none⟩) x0_1.length co3) y124 := (by rw [hw, Ny124.out]; exact HP9.1); clear HP9; have n0_ := Aside0.mk (hp_); have n1_ := Aside0.mk ((by rw [hw]; exact below_set (HB.out) GB8.out : Below w0.heap.size w0 w10)); have n2_ := Aside0.mk (Kept.of_grown (S := (fun k_ => P0_ k_)) hg (by repeat (first | (with_reducible first | exact HK.out | apply Kept.alloc | apply Kept.drewN | apply Kept.drew) | exact HK.out)) (fun k_ e_ => (HO_0.out.1 k_ e_))); clear HO_0; clear HB; clear HK; have HO_0 := n0_; have HB := n1_; have HK := n2_; clear n0_ n1_ n2_; clear hg hw hp_))
            (try simp only [← hl0_1])
            go_roundg k1
            case measure => have := HK1.out; omega
            case rel => exact ⟨(y124), (wrap64 (x7_1 + 1)), (by first | rfl | (simp; done) | (simp [*]; done)), H', ⟨by have := HK1.out; omega⟩, ⟨by (try simp only [hl0_1]); (with_reducible repeat (first | apply Kd.R_alloc | apply Kd.R_drewN | apply Kd.R_drew)); exact HO_0.out⟩, ⟨by repeat (first | (with_reducible first | exact HK.out | apply Kept.alloc | apply Kept.drewN | apply Kept.drew) | exact HK.out)⟩, ⟨by repeat (first | (with_reducible first | exact HB.out | apply below_alloc | apply pw_below_drewN | apply below_drew1) | exact HB.out)⟩⟩
          · rw [if_neg c6] at H
            exact absurd H (by simp)
        · rw [if_neg c5] at H
          exact absurd H (by simp)
      · rw [if_neg c4] at H
        have c4b0 : decide (x7_1 < (l0.length : Int)) = false := decide_eq_false c4
        (try have c4b0L := c4b0); (try simp only [hl0_1] at c4b0L)
        clear c4
        obtain rfl := Option.some.inj H
        go_wp2
        first | go_end0 | ((try simp only [Exit.inBlock, Exit.then]); refine bodyPost_ret (results_none rfl _ _ _) rfl ?_)
        exact ⟨by first | rfl | (simp [errW_none, errW_some] <;> rfl) | (simp [*, errW_none, errW_some] <;> rfl), (by first | exact (by (with_reducible repeat (first | apply Kd.R_alloc | apply Kd.R_drewN | apply Kd.R_drew)); exact HO_0.out) | (simp only [hl0_1]; exact (by (with_reducible repeat (first | apply Kd.R_alloc | apply Kd.R_drewN | apply Kd.R_drew)); exact HO_0.out))), by repeat (first | (with_reducible first | exact HB.out | apply below_alloc | apply pw_below_drewN | apply below_drew1) | exact HB.out), by repeat (first | (with_reducible first | exact HK.out | apply Kept.alloc | apply Kept.drewN | apply Kept.drew) | exact HK.out)⟩

end Go.Proofs.Ythhncoogmncdkaa.PA
-- written by the session's own program (wip/prt.py) over the kit's print: not print.sh's own text
namespace Go.Proofs.Ythhncoogmncdkaa.PA
open Go.RowKit Go.Proofs.YthhncoogmncdkaaW.PrintWords Go.Proofs.YthhncoogmncdkaaW.PrintLast Go.Proofs.YthhncoogmncdkaaW.PrintMore
attribute [local go_sem] max2_int min2_int max_two min_two max_three min_three max_four min_four   -- for this text's walks alone
set_option linter.unusedVariables false
set_option linter.unusedSimpArgs false

/-! ### matrix_solve: function 41 -/
def matrix_solve.find (M : List (List Int)) (j : Nat) : Nat → Nat → Nat
  | 0, i => i
  | d + 1, i => if rd (rw_ M i) (j : Int) ≠ 0 then i else matrix_solve.find M j d (i + 1)
def matrix_solve.clear (k : Nat) (j n : Nat) : Nat → Nat → List (List Int) → List (List Int) → Option (List (List Int) × List (List Int))
  | 0, _, M, B => some (M, B)
  | d + 1, i, M, B =>
    if i ≠ n ∧ rd (rw_ M i) (j : Int) ≠ 0 then (matrix_plus.f k (rw_ M i) (rd (rw_ M i) (j : Int)) (rw_ M n)).bind fun r => (matrix_plus.f k (rw_ B i) (rd (rw_ M i) (j : Int)) (rw_ B n)).bind fun s => matrix_solve.clear k j n d (i + 1) (M.set i r) (B.set i s)
    else matrix_solve.clear k j n d (i + 1) M B
def matrix_solve.cols (k : Nat) : Nat → Nat → Nat → List (List Int) → List (List Int) → Option (List (List Int) × List (List Int) × Nat)
  | 0, _, n, M, B => some (M, B, n)
  | d + 1, j, n, M, B => if matrix_solve.find M j (M.length - n) n = M.length then matrix_solve.cols k d (j + 1) n M B else
    (gf_Inv.f (rd (rw_ (swL M (matrix_solve.find M j (M.length - n) n) n) n) (j : Int))).bind fun c =>
    (matrix_times.f k (rw_ (swL M (matrix_solve.find M j (M.length - n) n) n) n) c.1).bind fun r =>
    (matrix_times.f k (rw_ (swL B (matrix_solve.find M j (M.length - n) n) n) n) c.1).bind fun s =>
    (matrix_solve.clear k j n M.length 0 ((swL M (matrix_solve.find M j (M.length - n) n) n).set n r) ((swL B (matrix_solve.find M j (M.length - n) n) n).set n s)).bind fun q => matrix_solve.cols k d (j + 1) (n + 1) q.1 q.2
def matrix_solve.ok (m m2 : Nat) (M B : List (List Int)) : Prop := 0 < M.length ∧ M.length ≤ 100 ∧ B.length = M.length ∧ 0 < m ∧ m ≤ 100 ∧ 0 < m2 ∧ m2 ≤ 100
def matrix_solve.f (k : Nat) (M B : List (List Int)) : Option (List (List Int) × List (List Int) × Nat) := matrix_solve.cols k (rw_ M 0).length 0 0 M B
theorem matrix_solve.clear_mono (k j n : Nat) : ∀ d i M B, LeO (matrix_solve.clear k j n d i M B) (matrix_solve.clear (k + 1) j n d i M B)
  | 0, _, _, _ => LeO.refl _
  | d + 1, i, M, B => LeO.ite (LeO.bind (matrix_plus.mono _ _ _ _) (fun _ => LeO.bind (matrix_plus.mono _ _ _ _) (fun _ => matrix_solve.clear_mono k j n d _ _ _))) (matrix_solve.clear_mono k j n d _ _ _)
theorem matrix_solve.cols_mono (k : Nat) : ∀ d j n M B, LeO (matrix_solve.cols k d j n M B) (matrix_solve.cols (k + 1) d j n M B)
  | 0, _, _, _, _ => LeO.refl _
  | d + 1, j, n, M, B => LeO.ite (matrix_solve.cols_mono k d _ _ _ _) (LeO.bind (LeO.refl _) (fun _ => LeO.bind (matrix_times.mono _ _ _) (fun _ => LeO.bind (matrix_times.mono _ _ _) (fun _ => LeO.bind (matrix_solve.clear_mono k _ _ _ _ _ _) (fun _ => matrix_solve.cols_mono k d _ _ _ _)))))
theorem matrix_solve.mono : ∀ a0 a1 k, LeO (matrix_solve.f k a0 a1) (matrix_solve.f (k + 1) a0 a1) := fun a0 a1 k => matrix_solve.cols_mono k _ _ _ _ _
theorem matrix_solve.find_ge (M : List (List Int)) (j : Nat) : ∀ d i, i ≤ matrix_solve.find M j d i ∧ matrix_solve.find M j d i ≤ i + d
  | 0, i => ⟨Nat.le_refl _, Nat.le_refl _⟩
  | d + 1, i => by
    unfold matrix_solve.find
    split
    · omega
    · have := matrix_solve.find_ge M j d (i + 1); omega
set_option maxHeartbeats 16000000 in
set_option maxRecDepth 100000 in
theorem matrix_solve.calls (k : Nat) (S1 S2 : Nat → Prop) (g g2 cap cap2 m m2 : Nat) (b c b2 c2 : Nat → Nat) (M B M' B' : List (List Int)) (r : Nat) (w0 w : World) (hB : Below w0.heap.size w0 w)
    (h1 : Mat w S1 g cap b c M m) (h2 : Mat w S2 g2 cap2 b2 c2 B m2) (hs1 : ∀ k, S1 k → w0.heap.size ≤ k ∧ ¬ S2 k) (hs2 : ∀ k, S2 k → w0.heap.size ≤ k ∧ ¬ S1 k)
    (hok : matrix_solve.ok m m2 M B) (h : matrix_solve.f k M B = some (M', B', r)) :
    Calls Try.prog 41 #[.slice (some ⟨g, 0, none⟩) M.length cap, .slice (some ⟨g2, 0, none⟩) B.length cap2] w fun e w' => e = .returned (.int .i64 r) ∧ (∃ b c b2 c2, Mat w' S1 g cap b c M' m ∧ Mat w' S2 g2 cap2 b2 c2 B' m2) ∧ M'.length = M.length ∧ B'.length = B.length ∧ Below w0.heap.size w0 w' := by
  obtain ⟨o1, o2, o3, o4, o5, o6, o7⟩ := hok
  unfold matrix_solve.f at h
  rw [h1.len o1] at h
  have O2 := Lib.hid o2
  have O3 := Lib.hid o3
  have O5 := Lib.hid o5
  have O7 := Lib.hid o7
  have HS1 := Lib.hid hs1
  have HS2 := Lib.hid hs2
  have HB := Lib.hid hB
  have H1 := Lib.hid h1
  have H2 := Lib.hid h2
  have H := Lib.hid h
  have hx0 := h1.out o1
  have hp : (0 : Int) < (M.length : Int) := by omega
  obtain ⟨n0, hn0⟩ : ∃ n0, n0 = M.length := ⟨_, rfl⟩
  have HN0 := Lib.hid hn0
  clear o2 o3 o5 o7 hs1 hs2 hB h1 h2 h hn0
  rw [O3.out]
  go_enter Try.func41, Try.ntmps41
  go_wp2_with fail
  go_step3
  go_wp2_with fail
  go_step3
  go_wp2_with fail
  go_loopg [5, 16] m (fun gk s5 s16 wx => ∃ (j n : Nat) (b c b2 c2 : Nat → Nat) (M1 B1 : List (List Int)), j + gk = m ∧ s16 = .int .i64 j ∧ s5 = .int .i64 n ∧ n ≤ M.length ∧ Aside0 (M1.length = M.length ∧ B1.length = M.length) ∧ Aside0 (Mat wx S1 g cap b c M1 m) ∧ Aside0 (Mat wx S2 g2 cap2 b2 c2 B1 m2) ∧ Aside0 (Below w0.heap.size w0 wx) ∧ Aside0 (matrix_solve.cols k gk j n M1 B1 = some (M', B', r)))
  case atStart => exact ⟨0, 0, b, c, b2, c2, M, B, by omega, rfl, rfl, by omega, ⟨rfl, O3.out⟩, ⟨H1.out⟩, ⟨H2.out⟩, ⟨HB.out⟩, ⟨H.out⟩⟩
  case round =>
    clear H1 H2 HB H hx0
    obtain ⟨j, n, b, c, b2, c2, M1, B1, hjg, rfl, rfl, hn, HL, H1, H2, HB, H⟩ := hrel
    cases gk with
    | zero =>
      obtain rfl : j = m := by omega
      have h : some (M1, B1, n) = some (M', B', r) := H.out
      simp only [Option.some.injEq, Prod.mk.injEq] at h
      obtain ⟨rfl, rfl, rfl⟩ := h
      go_wp2_with fail
      rw [Exit.noGoto_ret]
      go_ret
      exact ⟨rfl, ⟨_, _, _, _, H1.out, H2.out⟩, HL.out.1, HL.out.2, HB.out⟩
    | succ gko =>
      have hj1 : (j : Int) < (m : Int) := by omega
      obtain ⟨at_, hat⟩ : ∃ at_, at_ = matrix_solve.find M1 j (M1.length - n) n := ⟨_, rfl⟩
      have HAT := Lib.hid hat
      have h := H.out
      unfold matrix_solve.cols at h
      rw [← hat] at h
      replace H := Lib.hid h
      clear h hat
      go_upto_block 2 with fail
      go_cut [7] (fun v7 wc => v7 = .int .i64 at_ ∧ wc = wr)
      case first =>
        have hr := HL.out.1
        have hat := HAT.out
        rw [hr] at hat
        have HR := Lib.hid hr
        have HAT2 := Lib.hid hat
        clear hr hat
        go_wp2_with fail
        go_loopg [7] (M.length - n) (fun g7 s7 wx => ∃ i : Nat, i + g7 = M.length ∧ n ≤ i ∧ s7 = .int .i64 i ∧ wx = wr ∧ Aside0 (at_ = matrix_solve.find M1 j g7 i))
        case atStart => exact ⟨n, by omega, Nat.le_refl _, rfl, rfl, ⟨HAT2.out⟩⟩
        case round =>
          obtain ⟨i, hig, hni, rfl, rfl, HF⟩ := hrel
          have hl : (i : Int) ≤ (M.length : Int) := by omega
          cases gk with
          | zero =>
            obtain rfl : i = M.length := by omega
            go_wp2_with fail
            go_meet
            case rel => exact ⟨by rw [HF.out]; rfl, rfl⟩
          | succ d =>
            have hi : i < M1.length := by have := HR.out; omega
            have hx1 := H1.out.out hi
            have hx2 := H1.out.at_ hi (j := j) (by omega)
            have hi1 : (i : Int) < (M.length : Int) := by omega
            have hf := HF.out
            unfold matrix_solve.find at hf
            by_cases hz : rd (rw_ M1 i) (j : Int) = 0
            case pos =>
              rw [if_neg (by simpa using hz)] at hf
              have HF2 := Lib.hid hf
              have hz1 : (rd (rw_ M1 i) (j : Int) != 0) = false := bne_eq_false_iff_eq.mpr hz
              clear hf hz HF
              go_wp2_with fail
              go_roundg d
              case measure => omega
              case rel => exact ⟨i + 1, by omega, by omega, by have := O2.out; rw [show wrap64 ((i : Int) + 1) = ((i + 1 : Nat) : Int) by unfold wrap64; omega], rfl, ⟨HF2.out⟩⟩
            case neg =>
              rw [if_pos hz] at hf
              have hz1 : (rd (rw_ M1 i) (j : Int) != 0) = true := bne_iff_ne.mpr hz
              subst hf
              clear hz HF
              go_wp2_with fail
              go_meet
              case rel => exact ⟨rfl, rfl⟩
      case rest =>
        obtain ⟨rfl, rfl⟩ := hcut
        have hfg := matrix_solve.find_ge M1 j (M1.length - n) n
        rw [← HAT.out] at hfg
        have hl1 := HL.out.1
        have hl2 := HL.out.2
        by_cases he : at_ = M.length
        case pos =>
          have h := H.out
          rw [if_pos (by omega)] at h
          have H3 := Lib.hid h
          have he1 : ((at_ : Int) == (M.length : Int)) = true := beq_iff_eq.mpr (by omega)
          clear h H hfg hl1 hl2 he HAT
          go_wp2_with fail
          go_roundg gko
          case measure => omega
          case rel => exact ⟨j + 1, n, b, c, b2, c2, M1, B1, by omega, by have := O5.out; rw [show wrap64 ((j : Int) + 1) = ((j + 1 : Nat) : Int) by unfold wrap64; omega], rfl, hn, ⟨HL.out⟩, ⟨H1.out⟩, ⟨H2.out⟩, ⟨HB.out⟩, ⟨H3.out⟩⟩
        case neg =>
          have h := H.out
          rw [if_neg (by omega)] at h
          have H3 := Lib.hid h
          have he1 : ((at_ : Int) == (M.length : Int)) = false := beq_eq_false_iff_ne.mpr (by omega)
          have ha1 : at_ < M1.length := by omega
          have hn1 : n < M1.length := by omega
          have hai : (at_ : Int) < (M.length : Int) := by omega
          have hni : (n : Int) < (M.length : Int) := by omega
          have HA1 := Lib.hid ha1
          have HN1 := Lib.hid hn1
          have HN2 := Lib.hid (show n < B1.length by omega)
          have HA2 := Lib.hid (show at_ < B1.length by omega)
          have hx1 := H1.out.out ha1
          have hx2 := H1.out.out hn1
          have hf1 := H1.out.outF at_
          have hf2 := H1.out.outF n
          obtain ⟨⟨X, hX⟩, hXf⟩ := H1.out.mid ha1 hn1 (.slice (some ⟨b n, 0, none⟩) m (c n))
          clear h H hfg hl1 hl2 he HAT ha1 hn1
          go_upto_region 10 with fail
          go_region
          clear hx1 hx2 hf1 hf2 hX hXf
          replace H2 := Aside0.mk ((H2.out.keep (W' := (wc.setCell ⟨g, at_, none⟩ (.slice (some ⟨b n, 0, none⟩) m (c n))).setCell ⟨g, n, none⟩ (.slice (some ⟨b at_, 0, none⟩) m (c at_))) (fun k hk => (Below.heap_setCell _ ⟨g, n, none⟩ _ k (fun z => (HS2.out k hk).2 (z ▸ H1.out.2.1))).trans (Below.heap_setCell _ ⟨g, at_, none⟩ _ k (fun z => (HS2.out k hk).2 (z ▸ H1.out.2.1))))).below (below_drew (Below.refl _ _)))
          replace HB := Aside0.mk (below_drew (below_set (g := g) (j := n) (v := .slice (some ⟨b at_, 0, none⟩) m (c at_)) (below_set (g := g) (j := at_) (v := .slice (some ⟨b n, 0, none⟩) m (c n)) HB.out (HS1.out g H1.out.2.1).1) (HS1.out g H1.out.2.1).1))
          replace H1 := Aside0.mk ((H1.out.swap HA1.out HN1.out).below (below_drew (Below.refl _ _)))
          generalize ((wc.setCell ⟨g, at_, none⟩ (.slice (some ⟨b n, 0, none⟩) m (c n))).setCell ⟨g, n, none⟩ (.slice (some ⟨b at_, 0, none⟩) m (c at_))).drew = w1 at H1 H2 HB ⊢
          have hx1 := H2.out.out HA2.out
          have hx2 := H2.out.out HN2.out
          have hf1 := H2.out.outF at_
          have hf2 := H2.out.outF n
          obtain ⟨⟨X, hX⟩, hXf⟩ := H2.out.mid HA2.out HN2.out (.slice (some ⟨b2 n, 0, none⟩) m2 (c2 n))
          go_upto_region 11 with fail
          go_region
          clear hx1 hx2 hf1 hf2 hX hXf
          replace H1 := Aside0.mk ((H1.out.keep (W' := (w1.setCell ⟨g2, at_, none⟩ (.slice (some ⟨b2 n, 0, none⟩) m2 (c2 n))).setCell ⟨g2, n, none⟩ (.slice (some ⟨b2 at_, 0, none⟩) m2 (c2 at_))) (fun k hk => (Below.heap_setCell _ ⟨g2, n, none⟩ _ k (fun z => (HS1.out k hk).2 (z ▸ H2.out.2.1))).trans (Below.heap_setCell _ ⟨g2, at_, none⟩ _ k (fun z => (HS1.out k hk).2 (z ▸ H2.out.2.1))))).below (below_drew (Below.refl _ _)))
          replace HB := Aside0.mk (below_drew (below_set (g := g2) (j := n) (v := .slice (some ⟨b2 at_, 0, none⟩) m2 (c2 at_)) (below_set (g := g2) (j := at_) (v := .slice (some ⟨b2 n, 0, none⟩) m2 (c2 n)) HB.out (HS2.out g2 H2.out.2.1).1) (HS2.out g2 H2.out.2.1).1))
          replace H2 := Aside0.mk ((H2.out.swap HA2.out HN2.out).below (below_drew (Below.refl _ _)))
          generalize ((w1.setCell ⟨g2, at_, none⟩ (.slice (some ⟨b2 n, 0, none⟩) m2 (c2 n))).setCell ⟨g2, n, none⟩ (.slice (some ⟨b2 at_, 0, none⟩) m2 (c2 at_))).drew = w2 at H1 H2 HB ⊢
          have HLS := Lib.hid (show (swL M1 at_ n).length = M.length ∧ (swL B1 at_ n).length = M.length by rw [swL_len, swL_len]; exact HL.out)
          obtain ⟨⟨ci, ce⟩, hc, h⟩ := Option.bind_eq_some_iff.mp H3.out
          obtain ⟨r1, hr1, h⟩ := Option.bind_eq_some_iff.mp h
          obtain ⟨s1, hs1, h⟩ := Option.bind_eq_some_iff.mp h
          obtain ⟨⟨M3, B3⟩, hq, h⟩ := Option.bind_eq_some_iff.mp h
          simp only at hr1 hs1 hq h
          have HC := Lib.hid hc
          have HR1 := Lib.hid hr1
          have HR2 := Lib.hid hs1
          have HQ := Lib.hid hq
          have H4 := Lib.hid h
          clear hc hr1 hs1 hq H3 HA1 HA2
          clear h
          replace HN1 := Lib.hid (show n < (swL M1 at_ n).length by rw [HLS.out.1]; omega)
          replace HN2 := Lib.hid (show n < (swL B1 at_ n).length by rw [HLS.out.2]; omega)
          generalize swL M1 at_ n = M2 at *
          generalize swL B1 at_ n = B2 at *
          generalize swp at_ n b = b at *
          generalize swp at_ n c = c at *
          generalize swp at_ n b2 = b2 at *
          generalize swp at_ n c2 = c2 at *
          have hx1 := H1.out.out HN1.out
          have hx2 := H1.out.at_ HN1.out (j := j) (by omega)
          go_wp2_with fail
          clear hx1 hx2
          refine (gf_Inv.calls _ ci ce _ HC.out).mono ?_
          rintro e w3 ⟨rfl, hb⟩
          replace H1 := Aside0.mk (H1.out.below hb)
          replace H2 := Aside0.mk (H2.out.below hb)
          replace HB := Aside0.mk (below_step HB.out hb)
          clear hb
          have hx1 := H1.out.out HN1.out
          go_wp2_with fail
          clear hx1
          refine (matrix_times.calls k (fun k => k = b n) (.slice (some ⟨b n, 0, none⟩) m (c n)) (rw_ M2 n) ci r1 w0 _ HB.out (H1.out.R HN1.out (HS1.out _ (H1.out.own HN1.out)).1) HR1.out).mono ?_
          rintro e w4 ⟨rfl, ho, hb, hkp⟩
          replace H2 := Aside0.mk (H2.out.kept hkp (fun k hk z => (HS2.out k hk).2 (by rw [z]; exact H1.out.own HN1.out)))
          replace H1 := Aside0.mk (H1.out.setrow HN1.out ho (fun k hk hlt hne => hkp.2 k hlt hne))
          replace HB := Aside0.mk hb
          clear hb hkp ho
          have hx1 := H2.out.out HN2.out
          go_wp2_with fail
          clear hx1
          refine (matrix_times.calls k (fun k => k = b2 n) (.slice (some ⟨b2 n, 0, none⟩) m2 (c2 n)) (rw_ B2 n) ci s1 w0 _ HB.out (H2.out.R HN2.out (HS2.out _ (H2.out.own HN2.out)).1) HR2.out).mono ?_
          rintro e w5 ⟨rfl, ho, hb, hkp⟩
          replace H1 := Aside0.mk (H1.out.kept hkp (fun k hk z => (HS1.out k hk).2 (by rw [z]; exact H2.out.own HN2.out)))
          replace H2 := Aside0.mk (H2.out.setrow HN2.out ho (fun k hk hlt hne => hkp.2 k hlt hne))
          replace HB := Aside0.mk hb
          clear hb hkp ho HR1 HR2 HC
          have HN3 := Lib.hid (show n < (M2.set n r1).length by rw [List.length_set]; exact HN1.out)
          have HN4 := Lib.hid (show n < (B2.set n s1).length by rw [List.length_set]; exact HN2.out)
          have HL2 := Lib.hid (show (M2.set n r1).length = M.length ∧ (B2.set n s1).length = M.length by rw [List.length_set, List.length_set]; exact HLS.out)
          rw [HL.out.1] at HQ
          clear HN1 HN2 HLS HL
          generalize M2.set n r1 = M2 at *
          generalize B2.set n s1 = B2 at *
          go_wp2_with fail
          go_loopg [91] M.length (fun g9 s91 wx => ∃ (i : Nat) (M4 B4 : List (List Int)), i + g9 = M.length ∧ s91 = .int .i64 i ∧ Aside0 (M4.length = M.length ∧ B4.length = M.length) ∧ Aside0 (Mat wx S1 g cap b c M4 m) ∧ Aside0 (Mat wx S2 g2 cap2 b2 c2 B4 m2) ∧ Aside0 (Below w0.heap.size w0 wx) ∧ Aside0 (matrix_solve.clear k j n g9 i M4 B4 = some (M3, B3)))
          case atStart => exact ⟨0, M2, B2, by omega, rfl, ⟨HL2.out⟩, ⟨H1.out⟩, ⟨H2.out⟩, ⟨HB.out⟩, ⟨HQ.out⟩⟩
          case round =>
            clear H1 H2 HB HL2 HQ HN3 HN4
            obtain ⟨i, M4, B4, hig, rfl, HL, H1, H2, HB, HQ⟩ := hrel
            cases gk with
            | zero =>
              obtain rfl : i = M.length := by omega
              have h : some (M4, B4) = some (M3, B3) := HQ.out
              injection h with h
              injection h with e1 e2
              subst e1 e2
              clear HQ
              go_wp2_with fail
              go_roundg gko
              case measure => omega
              case rel => exact ⟨j + 1, n + 1, b, c, b2, c2, M4, B4, by omega, by have := O5.out; rw [show wrap64 ((j : Int) + 1) = ((j + 1 : Nat) : Int) by unfold wrap64; omega], by have := O2.out; rw [show wrap64 ((n : Int) + 1) = ((n + 1 : Nat) : Int) by unfold wrap64; omega], by omega, ⟨HL.out⟩, ⟨H1.out⟩, ⟨H2.out⟩, ⟨HB.out⟩, ⟨H4.out⟩⟩
            | succ d =>
              have hi1 : (i : Int) < (M.length : Int) := by omega
              have HI := Lib.hid (show i < M4.length by rw [HL.out.1]; omega)
              have HI2 := Lib.hid (show i < B4.length by rw [HL.out.2]; omega)
              have hx1 := H1.out.out HI.out
              have hx2 := H1.out.at_ HI.out (j := j) (by omega)
              have hq := HQ.out
              unfold matrix_solve.clear at hq
              by_cases hin : i = n
              case pos =>
                rw [if_neg (fun z => z.1 hin)] at hq
                have hin1 : ((i : Int) != (n : Int)) = false := bne_eq_false_iff_eq.mpr (by omega)
                replace HQ := Aside0.mk hq
                clear hq hin
                go_wp2_with fail
                go_roundg d
                case measure => omega
                case rel => exact ⟨i + 1, M4, B4, by omega, by have := O2.out; rw [show wrap64 ((i : Int) + 1) = ((i + 1 : Nat) : Int) by unfold wrap64; omega], ⟨HL.out⟩, ⟨H1.out⟩, ⟨H2.out⟩, ⟨HB.out⟩, ⟨HQ.out⟩⟩
              case neg =>
                have hin1 : ((i : Int) != (n : Int)) = true := bne_iff_ne.mpr (by omega)
                by_cases hz : rd (rw_ M4 i) (j : Int) = 0
                case pos =>
                  rw [if_neg (fun z => z.2 hz)] at hq
                  have hz1 : (rd (rw_ M4 i) (j : Int) != 0) = false := bne_eq_false_iff_eq.mpr hz
                  replace HQ := Aside0.mk hq
                  clear hq hin hz
                  go_wp2_with fail
                  go_roundg d
                  case measure => omega
                  case rel => exact ⟨i + 1, M4, B4, by omega, by have := O2.out; rw [show wrap64 ((i : Int) + 1) = ((i + 1 : Nat) : Int) by unfold wrap64; omega], ⟨HL.out⟩, ⟨H1.out⟩, ⟨H2.out⟩, ⟨HB.out⟩, ⟨HQ.out⟩⟩
                case neg =>
                  rw [if_pos ⟨hin, hz⟩] at hq
                  obtain ⟨r2, hr2, hq⟩ := Option.bind_eq_some_iff.mp hq
                  obtain ⟨s2, hs2, hq⟩ := Option.bind_eq_some_iff.mp hq
                  have hz1 : (rd (rw_ M4 i) (j : Int) != 0) = true := bne_iff_ne.mpr hz
                  have HR2 := Lib.hid hr2
                  have HT2 := Lib.hid hs2
                  replace HQ := Aside0.mk hq
                  have HIN := Lib.hid hin
                  have HN3 := Lib.hid (show n < M4.length by rw [HL.out.1]; omega)
                  have HN4 := Lib.hid (show n < B4.length by rw [HL.out.2]; omega)
                  have hx3 := H1.out.out HN3.out
                  clear hq hin hz hr2 hs2
                  go_wp2_with fail
                  go_still_tail 9, (by kernel_rfl)
                  change wpList _ _ _ _ _ wr.drew
                  clear hx1 hx2 hx3 hin1 hz1
                  replace H1 := Aside0.mk (H1.out.below (below_drew (Below.refl _ _)))
                  replace H2 := Aside0.mk (H2.out.below (below_drew (Below.refl _ _)))
                  replace HB := Aside0.mk (below_drew HB.out)
                  generalize wr.drew = wd at H1 H2 HB ⊢
                  go_wp2_with fail
                  have hC := matrix_plus.calls k (fun k => k = b i) (.slice (some ⟨b i, 0, none⟩) m (c i)) (rw_ M4 i) (rd (rw_ M4 i) (j : Int)) _ _ (rw_ M4 n) r2 w0 _ HB.out (H1.out.R HI.out (HS1.out _ (H1.out.own HI.out)).1) (H1.out.other HI.out HN3.out HIN.out) (H1.out.C HN3.out).2 HR2.out
                  rw [H1.out.len HN3.out] at hC
                  refine hC.mono ?_
                  clear hC
                  rintro e w4 ⟨rfl, ho, hb, hkp⟩
                  replace H2 := Aside0.mk (H2.out.kept hkp (fun k hk z => (HS2.out k hk).2 (by rw [z]; exact H1.out.own HI.out)))
                  replace H1 := Aside0.mk (H1.out.setrow HI.out ho (fun k hk hlt hne => hkp.2 k hlt hne))
                  replace HB := Aside0.mk hb
                  clear hb hkp ho HR2
                  have hx1 := H2.out.out HI2.out
                  have hx3 := H2.out.out HN4.out
                  go_wp2_with fail
                  go_still_tail 9, (by kernel_rfl)
                  change wpList _ _ _ _ _ w4.drew
                  clear hx1 hx3
                  replace H1 := Aside0.mk (H1.out.below (below_drew (Below.refl _ _)))
                  replace H2 := Aside0.mk (H2.out.below (below_drew (Below.refl _ _)))
                  replace HB := Aside0.mk (below_drew HB.out)
                  generalize w4.drew = wd2 at H1 H2 HB ⊢
                  go_wp2_with fail
                  have hC := matrix_plus.calls k (fun k => k = b2 i) (.slice (some ⟨b2 i, 0, none⟩) m2 (c2 i)) (rw_ B4 i) (rd (rw_ M4 i) (j : Int)) _ _ (rw_ B4 n) s2 w0 _ HB.out (H2.out.R HI2.out (HS2.out _ (H2.out.own HI2.out)).1) (H2.out.other HI2.out HN4.out HIN.out) (H2.out.C HN4.out).2 HT2.out
                  rw [H2.out.len HN4.out] at hC
                  refine hC.mono ?_
                  clear hC
                  rintro e w5 ⟨rfl, ho, hb, hkp⟩
                  replace H1 := Aside0.mk (H1.out.kept hkp (fun k hk z => (HS1.out k hk).2 (by rw [z]; exact H2.out.own HI2.out)))
                  replace H2 := Aside0.mk (H2.out.setrow HI2.out ho (fun k hk hlt hne => hkp.2 k hlt hne))
                  replace HB := Aside0.mk hb
                  clear hb hkp ho HT2
                  go_wp2_with fail
                  go_roundg d
                  case measure => omega
                  case rel => exact ⟨i + 1, M4.set i r2, B4.set i s2, by omega, by have := O2.out; rw [show wrap64 ((i : Int) + 1) = ((i + 1 : Nat) : Int) by unfold wrap64; omega], ⟨by rw [List.length_set, List.length_set]; exact HL.out⟩, ⟨H1.out⟩, ⟨H2.out⟩, ⟨HB.out⟩, ⟨HQ.out⟩⟩

/-! ### slices_Clone_byte_byte: function 51 -/
theorem slices_Clone_byte_byte.info : (Try.prog.info? 5).map (fun i => (i.zero, i.size, i.bytes)) = some (some (.int .u8 0), 1, 1) := by kernel_rfl
theorem slices_Clone_byte_byte.eql_nil (a : Option Addr) (n c n' c' : Nat) (w : World) : (binOp .eql 23 (.slice a n c) (.slice none n' c')).run Try.prog w = .ok (.bool a.isNone) w := by
  simp only [binOp]
  simp [Op.equal, Op.maxDepth, Lib.run_equalIn_slice_nil w 9999 23 5 a n c n' c' Try.underlying23]
def slices_Clone_byte_byte.f (l0 : List Int) : Option (List Int) := if l0.length < 140737488355328 then some l0 else none
set_option maxHeartbeats 400000 in
theorem slices_Clone_byte_byte.calls (A0 : Option Addr) (c0 : Nat) (l0 : List Int) (r : List Int) (w : World) (hr0 : Kd.C (Kd.int .u8) w A0 l0.length l0) (hc0 : l0.length ≤ c0) (h : slices_Clone_byte_byte.f l0 = some r) :
    Calls Try.prog 51 #[.slice A0 l0.length c0] w fun e w' => ∃ v0_ : Value, e = .returned (v0_) ∧ Kd.R (Kd.int .u8) 5 w' w.heap.size (fun _ => True) v0_ r ∧ Below w.heap.size w w' := by
  unfold slices_Clone_byte_byte.f at h
  split at h
  · rename_i hlim
    injection h with h
    subst h
    cases A0 with
    | none =>
      have hl : l0.length = 0 := by
        rcases Nat.eq_zero_or_pos l0.length with h | h
        · exact h
        · obtain ⟨ad, h1, _⟩ := hr0.2.2 h; cases h1
      obtain rfl := List.length_eq_zero_iff.1 hl
      have he := slices_Clone_byte_byte.eql_nil none 0 c0 0 0 w
      go_enter Try.func51, Try.ntmps51
      go_wp2_with fail
      go_ret
      exact ⟨_, rfl, Kd.R_nil _ _ _ _ _, Below.refl _ _⟩
    | some ad =>
      have HR := Lib.hid hr0
      have HL := Lib.hid hlim
      have he := slices_Clone_byte_byte.eql_nil (some ad) l0.length c0 0 0 w
      have HO : (Kd.int .u8).R 5 (w.alloc (.cells #[] 5)) w.heap.size (fun _ => True) (.slice (some ⟨w.heap.size, 0, none⟩) 0 0) ([] : List Int) := Kd.R_of_own (own_lit w w.heap.size 5 .u8 [] (Nat.le_refl _) (by simp)) (fun _ _ => trivial)
      have HN := Lib.hid HO
      clear hr0 hc0 hlim HO
      go_enter Try.func51, Try.ntmps51
      go_wp2_with ((with_reducible refine gate_builtin (b := .append) (xs := #[.tmp 5, .tmp 6]) rfl ?_); at_builtin; refine Kd.R_append_rows (Kd.int .u8) (w0 := w) w.heap.size rfl (.tmp 5) (.tmp 6) 23 5 (.int .u8 0) 1 rfl Try.underlying23 slices_Clone_byte_byte.info rfl (by decide) (by omega) (.slice (some ⟨w.heap.size, 0, none⟩) 0 0) ([] : List Int) l0 _ _ _ (fun _ => True) (fun _ => False) rfl rfl HN.out ?aR (fun _ _ h => h) (fun _ h => h.elim) (fun _ _ => trivial) ?aB ?aS ?aL ?_; (case aR => exact Kd.C_alloc HR.out _); (case aB => exact below_alloc (Below.refl _ _) _); (case aS => exact (below_alloc (Below.refl _ _) _).size); (case aL => have := HL.out; simp; omega); intro v1 w1 ho hb hg hat; have HO2 := Lib.hid ho; have HB2 := Lib.hid hb; clear ho hb hg hat)
      go_ret
      exact ⟨_, rfl, HO2.out, HB2.out⟩
  · cases h

-- NOT PRINTED: function 58 (slices_Clone_uint8_uint8)

end Go.Proofs.Ythhncoogmncdkaa.PA
-- written by the session's own program (wip/prt.py) over the kit's print: not print.sh's own text
namespace Go.Proofs.Ythhncoogmncdkaa.PA
open Go.RowKit Go.Proofs.YthhncoogmncdkaaW.PrintWords Go.Proofs.YthhncoogmncdkaaW.PrintLast Go.Proofs.YthhncoogmncdkaaW.PrintMore
attribute [local go_sem] max2_int min2_int max_two min_two max_three min_three max_four min_four   -- for this text's walks alone
set_option linter.unusedVariables false
set_option linter.unusedSimpArgs false

/-! ### twoslotlaw04_much: function 12 -/
def twoslotlaw04_much.l0 : Nat → List (List Int) → Int → Option (Bool)
  | 0, _, _ => none
  | k + 1, x0, x3 => if x3 < (x0.length : Int) then (if 0 ≤ x3 then (if ((rd_L1 x0 x3).length : Int) > 3000 then (if ((rd_L1 x0 x3).length : Int) ≤ 65536 then (some true) else (if ((rd_L1 x0 x3).length : Int) > 70000 then (some true) else (twoslotlaw04_much.l0 k x0 (wrap64 (x3 + 1))))) else (if ((rd_L1 x0 x3).length : Int) > 70000 then (some true) else (twoslotlaw04_much.l0 k x0 (wrap64 (x3 + 1))))) else (none)) else (some false)
def twoslotlaw04_much.f (k : Nat) (l0 : List (List Int)) : Option (Bool) := if (l0.length : Int) > 60 then (some true) else (twoslotlaw04_much.l0 k l0 0)
theorem twoslotlaw04_much.mono_l : ∀ k, (∀ y0 y1, LeO (twoslotlaw04_much.l0 k y0 y1) (twoslotlaw04_much.l0 (k + 1) y0 y1))
  | 0 => fun _ _ r h => by simp [twoslotlaw04_much.l0] at h
  | k + 1 => by
    have ih0 := twoslotlaw04_much.mono_l k
    · intro y0 y1
      unfold twoslotlaw04_much.l0
      repeat' first
      | (with_reducible exact ih0 _ _)
      | (with_reducible exact LeO.refl _)
      | (with_reducible exact LeO.none _)
      | (with_reducible refine LeO.ite ?_ ?_)
      | (with_reducible refine LeO.bind ?_ (fun _ => ?_))
      | exact ih0 _ _
      | exact LeO.none _
      | refine LeO.ite ?_ ?_
      | refine LeO.bind ?_ (fun _ => ?_)
theorem twoslotlaw04_much.mono : ∀ a0 k, LeO (twoslotlaw04_much.f k a0) (twoslotlaw04_much.f (k + 1) a0) := by
  intro a0 k
  have ih0 := twoslotlaw04_much.mono_l k
  unfold twoslotlaw04_much.f
  repeat' first
      | (with_reducible exact ih0 _ _)
      | (with_reducible exact LeO.refl _)
      | (with_reducible exact LeO.none _)
      | (with_reducible refine LeO.ite ?_ ?_)
      | (with_reducible refine LeO.bind ?_ (fun _ => ?_))
      | exact ih0 _ _
      | exact LeO.none _
      | refine LeO.ite ?_ ?_
      | refine LeO.bind ?_ (fun _ => ?_)
set_option maxHeartbeats 8000000 in
set_option maxRecDepth 100000 in
theorem twoslotlaw04_much.calls (k : Nat) (A0 : Option Addr) (c0 : Nat) (l0 : List (List Int)) (r : Bool) (w : World) (hr0 : Kd.C (Kd.slice 5 (Kd.int .u8)) w A0 l0.length l0) (hc0 : l0.length ≤ c0) (h : twoslotlaw04_much.f k l0 = some r) :
    Calls Try.prog 12 #[.slice A0 l0.length c0] w fun e w' => e = .returned (.bool r) ∧ Drawn0 w w' := by
  have HR0 := Aside0.mk hr0
  have HC0 := Aside0.mk hc0
  clear hr0 hc0
  have H : (if (l0.length : Int) > 60 then (some true) else (twoslotlaw04_much.l0 k l0 0)) = some r := h
  clear h
  by_cases c2 : (l0.length : Int) > 60
  · rw [if_pos c2] at H
    have c2b0 : decide (60 < (l0.length : Int)) = true := decide_eq_true c2
    have c2b1 : decide (60 < l0.length) = true := decide_eq_true (by omega)
    clear c2
    obtain rfl := Option.some.inj H
    go_enter Try.func12, Try.ntmps12
    go_wp2
    go_ret
    exact ⟨by first | rfl | (simp; done) | (simp [*]; done), by repeat (first | exact Drawn0.refl _ | apply Drawn0.step)⟩
  · rw [if_neg c2] at H
    have c2b0 : decide (60 < (l0.length : Int)) = false := decide_eq_false c2
    have c2b1 : decide (60 < l0.length) = false := decide_eq_false (by omega)
    clear c2
    have H' := Aside0.mk H
    clear H
    go_enter Try.func12, Try.ntmps12
    go_wp2
    go_loopg [3] k (fun kq v3 w' => ∃ (x3_1 : Int), v3 = .int .i64 x3_1 ∧ Aside0 (twoslotlaw04_much.l0 kq l0 x3_1 = some r) ∧ Aside0 (kq ≤ k) ∧ Drawn0 w w')
    case atStart => exact ⟨(0), (by first | rfl | (simp; done) | (simp [*]; done)), H', ⟨Nat.le_refl _⟩, by repeat (first | exact Drawn0.refl _ | apply Drawn0.step)⟩
    case round =>
      clear H'
      try clear c1
      try clear c2
      try clear c2b0
      try clear c2b1
      try clear p2
      obtain ⟨x3_1, rfl, HA, HK1, ⟨m1, rfl⟩⟩ := hrel
      cases gk with
      | zero => exact absurd HA.out (by simp [twoslotlaw04_much.l0])
      | succ k1 =>
        have H := HA.out
        clear HA
        simp only [twoslotlaw04_much.l0] at H
        by_cases c3 : x3_1 < (l0.length : Int)
        · rw [if_pos c3] at H
          have c3b0 : decide (x3_1 < (l0.length : Int)) = true := decide_eq_true c3
          clear c3
          by_cases c4 : 0 ≤ x3_1
          · rw [if_pos c4] at H
            have c4b0 : decide (0 ≤ x3_1) = true := decide_eq_true c4
            clear c4
            by_cases c5 : ((rd_L1 l0 x3_1).length : Int) > 3000
            · rw [if_pos c5] at H
              have c5b0 : decide (3000 < ((rd_L1 l0 x3_1).length : Int)) = true := decide_eq_true c5
              have c5b1 : decide (3000 < (rd_L1 l0 x3_1).length) = true := decide_eq_true (by omega)
              clear c5
              by_cases c6 : ((rd_L1 l0 x3_1).length : Int) ≤ 65536
              · rw [if_pos c6] at H
                have c6b0 : decide (((rd_L1 l0 x3_1).length : Int) ≤ 65536) = true := decide_eq_true c6
                have c6b1 : decide ((rd_L1 l0 x3_1).length ≤ 65536) = true := decide_eq_true (by omega)
                clear c6
                obtain rfl := Option.some.inj H
                have p152 : 0 ≤ (x3_1 : Int) := of_decide_eq_true (by first | (with_reducible assumption) | assumption)
                have q152 : x3_1 < (l0.length : Int) := of_decide_eq_true (by first | (with_reducible assumption) | assumption)
                obtain ⟨ad152, A152_0, c152_0, e152, hx152_0, hl152_0, hi152_0⟩ := at_L1 HR0.out x3_1 p152 q152
                cases e152
                have HR152_0 := Aside0.mk hi152_0
                have HC152_0 := Aside0.mk hl152_0
                clear hi152_0 hl152_0
                replace p152 := eq_true p152
                replace q152 := eq_true q152
                have p153 : 0 ≤ (x3_1 : Int) := of_decide_eq_true (by first | (with_reducible assumption) | assumption)
                have q153 : x3_1 < (l0.length : Int) := of_decide_eq_true (by first | (with_reducible assumption) | assumption)
                obtain ⟨ad153, A153_0, c153_0, e153, hx153_0, hl153_0, hi153_0⟩ := at_L1 HR0.out x3_1 p153 q153
                obtain rfl : ad152 = ad153 := (by injection e153)
                have HR153_0 := Aside0.mk hi153_0
                have HC153_0 := Aside0.mk hl153_0
                clear hi153_0 hl153_0
                replace p153 := eq_true p153
                replace q153 := eq_true q153
                have ea_ := Option.some.inj (hx152_0.symm.trans hx153_0)
                injection ea_ with ea_ en_ ec_
                subst ea_
                subst ec_
                clear en_
                go_wp2
                go_ret
                exact ⟨by first | rfl | (simp; done) | (simp [*]; done), by repeat (first | exact Drawn0.refl _ | apply Drawn0.step)⟩
              · rw [if_neg c6] at H
                have c6b0 : decide (((rd_L1 l0 x3_1).length : Int) ≤ 65536) = false := decide_eq_false c6
                have c6b1 : decide ((rd_L1 l0 x3_1).length ≤ 65536) = false := decide_eq_false (by omega)
                clear c6
                by_cases c7 : ((rd_L1 l0 x3_1).length : Int) > 70000
                · rw [if_pos c7] at H
                  have c7b0 : decide (70000 < ((rd_L1 l0 x3_1).length : Int)) = true := decide_eq_true c7
                  have c7b1 : decide (70000 < (rd_L1 l0 x3_1).length) = true := decide_eq_true (by omega)
                  clear c7
                  obtain rfl := Option.some.inj H
                  have p152 : 0 ≤ (x3_1 : Int) := of_decide_eq_true (by first | (with_reducible assumption) | assumption)
                  have q152 : x3_1 < (l0.length : Int) := of_decide_eq_true (by first | (with_reducible assumption) | assumption)
                  obtain ⟨ad152, A152_0, c152_0, e152, hx152_0, hl152_0, hi152_0⟩ := at_L1 HR0.out x3_1 p152 q152
                  cases e152
                  have HR152_0 := Aside0.mk hi152_0
                  have HC152_0 := Aside0.mk hl152_0
                  clear hi152_0 hl152_0
                  replace p152 := eq_true p152
                  replace q152 := eq_true q152
                  have p153 : 0 ≤ (x3_1 : Int) := of_decide_eq_true (by first | (with_reducible assumption) | assumption)
                  have q153 : x3_1 < (l0.length : Int) := of_decide_eq_true (by first | (with_reducible assumption) | assumption)
                  obtain ⟨ad153, A153_0, c153_0, e153, hx153_0, hl153_0, hi153_0⟩ := at_L1 HR0.out x3_1 p153 q153
                  obtain rfl : ad152 = ad153 := (by injection e153)
                  have HR153_0 := Aside0.mk hi153_0
                  have HC153_0 := Aside0.mk hl153_0
                  clear hi153_0 hl153_0
                  replace p153 := eq_true p153
                  replace q153 := eq_true q153
                  have ea_ := Option.some.inj (hx152_0.symm.trans hx153_0)
                  injection ea_ with ea_ en_ ec_
                  subst ea_
                  subst ec_
                  clear en_
                  have p154 : 0 ≤ (x3_1 : Int) := of_decide_eq_true (by first | (with_reducible assumption) | assumption)
                  have q154 : x3_1 < (l0.length : Int) := of_decide_eq_true (by first | (with_reducible assumption) | assumption)
                  obtain ⟨ad154, A154_0, c154_0, e154, hx154_0, hl154_0, hi154_0⟩ := at_L1 HR0.out x3_1 p154 q154
                  obtain rfl : ad152 = ad154 := (by injection e154)
                  have HR154_0 := Aside0.mk hi154_0
                  have HC154_0 := Aside0.mk hl154_0
                  clear hi154_0 hl154_0
                  replace p154 := eq_true p154
                  replace q154 := eq_true q154
                  have ea_ := Option.some.inj (hx152_0.symm.trans hx154_0)
                  injection ea_ with ea_ en_ ec_
                  subst ea_
                  subst ec_
                  clear en_
                  go_wp2
                  go_ret
                  exact ⟨by first | rfl | (simp; done) | (simp [*]; done), by repeat (first | exact Drawn0.refl _ | apply Drawn0.step)⟩
                · rw [if_neg c7] at H
                  have c7b0 : decide (70000 < ((rd_L1 l0 x3_1).length : Int)) = false := decide_eq_false c7
                  have c7b1 : decide (70000 < (rd_L1 l0 x3_1).length) = false := decide_eq_false (by omega)
                  clear c7
                  have H' := Aside0.mk H
                  clear H
                  have p152 : 0 ≤ (x3_1 : Int) := of_decide_eq_true (by first | (with_reducible assumption) | assumption)
                  have q152 : x3_1 < (l0.length : Int) := of_decide_eq_true (by first | (with_reducible assumption) | assumption)
                  obtain ⟨ad152, A152_0, c152_0, e152, hx152_0, hl152_0, hi152_0⟩ := at_L1 HR0.out x3_1 p152 q152
                  cases e152
                  have HR152_0 := Aside0.mk hi152_0
                  have HC152_0 := Aside0.mk hl152_0
                  clear hi152_0 hl152_0
                  replace p152 := eq_true p152
                  replace q152 := eq_true q152
                  have p153 : 0 ≤ (x3_1 : Int) := of_decide_eq_true (by first | (with_reducible assumption) | assumption)
                  have q153 : x3_1 < (l0.length : Int) := of_decide_eq_true (by first | (with_reducible assumption) | assumption)
                  obtain ⟨ad153, A153_0, c153_0, e153, hx153_0, hl153_0, hi153_0⟩ := at_L1 HR0.out x3_1 p153 q153
                  obtain rfl : ad152 = ad153 := (by injection e153)
                  have HR153_0 := Aside0.mk hi153_0
                  have HC153_0 := Aside0.mk hl153_0
                  clear hi153_0 hl153_0
                  replace p153 := eq_true p153
                  replace q153 := eq_true q153
                  have ea_ := Option.some.inj (hx152_0.symm.trans hx153_0)
                  injection ea_ with ea_ en_ ec_
                  subst ea_
                  subst ec_
                  clear en_
                  have p154 : 0 ≤ (x3_1 : Int) := of_decide_eq_true (by first | (with_reducible assumption) | assumption)
                  have q154 : x3_1 < (l0.length : Int) := of_decide_eq_true (by first | (with_reducible assumption) | assumption)
                  obtain ⟨ad154, A154_0, c154_0, e154, hx154_0, hl154_0, hi154_0⟩ := at_L1 HR0.out x3_1 p154 q154
                  obtain rfl : ad152 = ad154 := (by injection e154)
                  have HR154_0 := Aside0.mk hi154_0
                  have HC154_0 := Aside0.mk hl154_0
                  clear hi154_0 hl154_0
                  replace p154 := eq_true p154
                  replace q154 := eq_true q154
                  have ea_ := Option.some.inj (hx152_0.symm.trans hx154_0)
                  injection ea_ with ea_ en_ ec_
                  subst ea_
                  subst ec_
                  clear en_
                  go_wp2
                  go_roundg k1
                  case measure => have := HK1.out; omega
                  case rel => exact ⟨(wrap64 (x3_1 + 1)), (by first | rfl | (simp; done) | (simp [*]; done)), H', ⟨by have := HK1.out; omega⟩, by repeat (first | exact Drawn0.refl _ | apply Drawn0.step)⟩
            · rw [if_neg c5] at H
              have c5b0 : decide (3000 < ((rd_L1 l0 x3_1).length : Int)) = false := decide_eq_false c5
              have c5b1 : decide (3000 < (rd_L1 l0 x3_1).length) = false := decide_eq_false (by omega)
              clear c5
              by_cases c8 : ((rd_L1 l0 x3_1).length : Int) > 70000
              · rw [if_pos c8] at H
                have c8b0 : decide (70000 < ((rd_L1 l0 x3_1).length : Int)) = true := decide_eq_true c8
                have c8b1 : decide (70000 < (rd_L1 l0 x3_1).length) = true := decide_eq_true (by omega)
                clear c8
                obtain rfl := Option.some.inj H
                have p152 : 0 ≤ (x3_1 : Int) := of_decide_eq_true (by first | (with_reducible assumption) | assumption)
                have q152 : x3_1 < (l0.length : Int) := of_decide_eq_true (by first | (with_reducible assumption) | assumption)
                obtain ⟨ad152, A152_0, c152_0, e152, hx152_0, hl152_0, hi152_0⟩ := at_L1 HR0.out x3_1 p152 q152
                cases e152
                have HR152_0 := Aside0.mk hi152_0
                have HC152_0 := Aside0.mk hl152_0
                clear hi152_0 hl152_0
                replace p152 := eq_true p152
                replace q152 := eq_true q152
                have p155 : 0 ≤ (x3_1 : Int) := of_decide_eq_true (by first | (with_reducible assumption) | assumption)
                have q155 : x3_1 < (l0.length : Int) := of_decide_eq_true (by first | (with_reducible assumption) | assumption)
                obtain ⟨ad155, A155_0, c155_0, e155, hx155_0, hl155_0, hi155_0⟩ := at_L1 HR0.out x3_1 p155 q155
                obtain rfl : ad152 = ad155 := (by injection e155)
                have HR155_0 := Aside0.mk hi155_0
                have HC155_0 := Aside0.mk hl155_0
                clear hi155_0 hl155_0
                replace p155 := eq_true p155
                replace q155 := eq_true q155
                have ea_ := Option.some.inj (hx152_0.symm.trans hx155_0)
                injection ea_ with ea_ en_ ec_
                subst ea_
                subst ec_
                clear en_
                go_wp2
                go_ret
                exact ⟨by first | rfl | (simp; done) | (simp [*]; done), by repeat (first | exact Drawn0.refl _ | apply Drawn0.step)⟩
              · rw [if_neg c8] at H
                have c8b0 : decide (70000 < ((rd_L1 l0 x3_1).length : Int)) = false := decide_eq_false c8
                have c8b1 : decide (70000 < (rd_L1 l0 x3_1).length) = false := decide_eq_false (by omega)
                clear c8
                have H' := Aside0.mk H
                clear H
                have p152 : 0 ≤ (x3_1 : Int) := of_decide_eq_true (by first | (with_reducible assumption) | assumption)
                have q152 : x3_1 < (l0.length : Int) := of_decide_eq_true (by first | (with_reducible assumption) | assumption)
                obtain ⟨ad152, A152_0, c152_0, e152, hx152_0, hl152_0, hi152_0⟩ := at_L1 HR0.out x3_1 p152 q152
                cases e152
                have HR152_0 := Aside0.mk hi152_0
                have HC152_0 := Aside0.mk hl152_0
                clear hi152_0 hl152_0
                replace p152 := eq_true p152
                replace q152 := eq_true q152
                have p155 : 0 ≤ (x3_1 : Int) := of_decide_eq_true (by first | (with_reducible assumption) | assumption)
                have q155 : x3_1 < (l0.length : Int) := of_decide_eq_true (by first | (with_reducible assumption) | assumption)
                obtain ⟨ad155, A155_0, c155_0, e155, hx155_0, hl155_0, hi155_0⟩ := at_L1 HR0.out x3_1 p155 q155
                obtain rfl : ad152 = ad155 := (by injection e155)
                have HR155_0 := Aside0.mk hi155_0
                have HC155_0 := Aside0.mk hl155_0
                clear hi155_0 hl155_0
                replace p155 := eq_true p155
                replace q155 := eq_true q155
                have ea_ := Option.some.inj (hx152_0.symm.trans hx155_0)
                injection ea_ with ea_ en_ ec_
                subst ea_
                subst ec_
                clear en_
                go_wp2
                go_roundg k1
                case measure => have := HK1.out; omega
                case rel => exact ⟨(wrap64 (x3_1 + 1)), (by first | rfl | (simp; done) | (simp [*]; done)), H', ⟨by have := HK1.out; omega⟩, by repeat (first | exact Drawn0.refl _ | apply Drawn0.step)⟩
          · rw [if_neg c4] at H
            exact absurd H (by simp)
        · rw [if_neg c3] at H
          have c3b0 : decide (x3_1 < (l0.length : Int)) = false := decide_eq_false c3
          clear c3
          obtain rfl := Option.some.inj H
          go_wp2
          go_ret
          exact ⟨by first | rfl | (simp; done) | (simp [*]; done), by repeat (first | exact Drawn0.refl _ | apply Drawn0.step)⟩

/-! ### kernel_Plus: function 37 -/
def kernel_Plus.f (k : Nat) (l0 : List Int) (a1 : Int) (l2 : List Int) : Option (List Int × Int) := (kernel_alike.f k (([l0, l2] : List (List Int)))).bind fun t159 => (if t159 = true then ((slices_Clone_byte_byte.f l0).bind fun t160 => ((kernel_add.f k t160 a1 l2).bind fun t163 => (some (t163, 0)))) else (some (([] : List Int), 20)))
theorem kernel_Plus.mono : ∀ a0 a1 a2 k, LeO (kernel_Plus.f k a0 a1 a2) (kernel_Plus.f (k + 1) a0 a1 a2) := by
  intro a0 a1 a2 k
  unfold kernel_Plus.f
  repeat' first
      | (with_reducible exact kernel_add.mono _ _ _ _)
      | (with_reducible exact kernel_alike.mono _ _)
      | (with_reducible exact LeO.refl _)
      | (with_reducible exact LeO.none _)
      | (with_reducible refine LeO.ite ?_ ?_)
      | (with_reducible refine LeO.bind ?_ (fun _ => ?_))
      | exact kernel_add.mono _ _ _ _
      | exact kernel_alike.mono _ _
      | exact LeO.none _
      | refine LeO.ite ?_ ?_
      | refine LeO.bind ?_ (fun _ => ?_)
set_option maxHeartbeats 8000000 in
set_option maxRecDepth 100000 in
theorem kernel_Plus.calls (k : Nat) (P0_ : Nat → Prop) (A0 : Option Addr) (c0 : Nat) (l0 : List Int) (a1 : Int) (P2_ : Nat → Prop) (A2 : Option Addr) (c2 : Nat) (l2 : List Int) (r1 : List Int) (r2 : Int) (w : World) (hs0 : Kd.V (Kd.int .u8) 5 w w.heap.size (fun k_ => P0_ k_) (.slice A0 l0.length c0) l0) (hs2 : Kd.V (Kd.int .u8) 5 w w.heap.size (fun k_ => P2_ k_) (.slice A2 l2.length c2) l2) (h : kernel_Plus.f k l0 a1 l2 = some (r1, r2)) :
    Calls Try.prog 37 #[.slice A0 l0.length c0, .int .u8 a1, .slice A2 l2.length c2] w fun e w' => ∃ v0_ : Value, e = .returned (.tuple #[v0_, .int .i64 r2]) ∧ Kd.R (Kd.int .u8) 5 w' w.heap.size (fun k_ => (w.heap.size ≤ k_)) v0_ r1 ∧ Below w.heap.size w w' := by
  have HO0 := Aside0.mk (show Kd.V (Kd.int .u8) 5 w w.heap.size (fun k_ => ((P0_ k_ ∨ P2_ k_) ∨ w.heap.size ≤ k_)) (.slice A0 l0.length c0) l0 from Kd.V_mono hs0 (fun k_ hk => .inl (.inl hk)))
  have HO2 := Aside0.mk (show Kd.V (Kd.int .u8) 5 w w.heap.size (fun k_ => ((P0_ k_ ∨ P2_ k_) ∨ w.heap.size ≤ k_)) (.slice A2 l2.length c2) l2 from Kd.V_mono hs2 (fun k_ hk => .inl (.inr hk)))
  have HB := Aside0.mk (Below.refl w.heap.size w)
  have H : ((kernel_alike.f k (([l0, l2] : List (List Int)))).bind fun t159 => (if t159 = true then ((slices_Clone_byte_byte.f l0).bind fun t160 => ((kernel_add.f k t160 a1 l2).bind fun t163 => (some (t163, 0)))) else (some (([] : List Int), 20)))) = some (r1, r2) := h
  clear h
  obtain ⟨y156, hy156⟩ : ∃ y_ : List (List Int), y_ = (([l0, l2] : List (List Int))) := ⟨_, rfl⟩
  replace H : ((kernel_alike.f k y156).bind fun t159 => (if t159 = true then ((slices_Clone_byte_byte.f l0).bind fun t160 => ((kernel_add.f k t160 a1 l2).bind fun t163 => (some (t163, 0)))) else (some (([] : List Int), 20)))) = some (r1, r2) := by first | (rw [hy156]; with_reducible exact H) | (have H2_ := (Option.bind_some _ _).symm.trans H; rw [hy156]; with_reducible exact H2_) | (have H2_ := (Option.bind_some _ _).symm.trans H; with_reducible exact H2_) | with_reducible exact H | (rw [hy156]; exact H) | exact H
  have Ny156 := Aside0.mk hy156
  clear hy156
  replace H := Option.bind_eq_some_iff.mp H
  obtain ⟨t159, A40, H⟩ := H
  replace H : (if t159 = true then ((slices_Clone_byte_byte.f l0).bind fun t160 => ((kernel_add.f k t160 a1 l2).bind fun t163 => (some (t163, 0)))) else (some (([] : List Int), 20))) = some (r1, r2) := H
  have A4 := Aside0.mk A40
  clear A40
  by_cases c5 : t159 = true
  · subst c5
    have H1 : ((slices_Clone_byte_byte.f l0).bind fun t160 => ((kernel_add.f k t160 a1 l2).bind fun t163 => (some (t163, 0)))) = some (r1, r2) := by rw [if_pos rfl] at H; exact H
    clear H
    have H := H1
    clear H1
    replace H := Option.bind_eq_some_iff.mp H
    obtain ⟨t160, A60, H⟩ := H
    replace H : ((kernel_add.f k t160 a1 l2).bind fun t163 => (some (t163, 0))) = some (r1, r2) := H
    have A6 := Aside0.mk A60
    clear A60
    replace H := Option.bind_eq_some_iff.mp H
    obtain ⟨t163, A70, H⟩ := H
    replace H : (some (t163, 0)) = some (r1, r2) := H
    have A7 := Aside0.mk A70
    clear A70
    simp only [Option.some.injEq, Prod.mk.injEq] at H
    obtain ⟨rfl, rfl⟩ := H
    go_enter Try.func37, Try.ntmps37
    go_wp2_with (first | ((with_reducible refine gate_dst (N := 11) rfl ?_); refine Kd.N_lit (Kd.slice 5 (Kd.int .u8)) _ 23 ?hg (N' := 11) ?hd (xs := ([l0, l2] : List (List Int))) (inner := [.slice A0 l0.length c0, .slice A2 l2.length c2]) (ok := (fun k_ => ((P0_ k_ ∨ P2_ k_) ∨ w.heap.size ≤ k_))) (okp := (fun k_ => ((P0_ k_ ∨ P2_ k_) ∨ w.heap.size ≤ k_))) ?hr ?hp (fun _ hk => hk) ((show ∀ k_, w.heap.size ≤ k_ → (fun k_ => ((P0_ k_ ∨ P2_ k_) ∨ w.heap.size ≤ k_)) k_ from fun k_ hk => (.inr (Nat.le_trans (below_size (by repeat (first | (with_reducible first | exact HB.out | apply below_alloc | apply pw_below_drewN | apply below_drew1) | exact HB.out))) hk))) _ (Nat.le_refl _)) (Below.refl _ _) (Nat.le_refl _) (by simp) ?_; (case hd => rfl); (case hg => rfl); (case hr => first | (go_simp; done) | (go_simp; rfl)); (case hp => exact (Reps.one (show Kd.FK (Kd.slice 5 (Kd.int .u8)) _ _ l0 [.slice A0 l0.length c0] from (Kd.FK_slice_mk (Kd.V_reads' (Kd.V_mono (ok' := (fun k_ => ((P0_ k_ ∨ P2_ k_) ∨ w.heap.size ≤ k_))) (HO0.out) (fun k_ hk => hk))).2.1 (Kd.V_F (Kd.V_mono (ok' := (fun k_ => ((P0_ k_ ∨ P2_ k_) ∨ w.heap.size ≤ k_))) (HO0.out) (fun k_ hk => hk))))) (Reps.one (show Kd.FK (Kd.slice 5 (Kd.int .u8)) _ _ l2 [.slice A2 l2.length c2] from (Kd.FK_slice_mk (Kd.V_reads' (Kd.V_mono (ok' := (fun k_ => ((P0_ k_ ∨ P2_ k_) ∨ w.heap.size ≤ k_))) (HO2.out) (fun k_ hk => hk))).2.1 (Kd.V_F (Kd.V_mono (ok' := (fun k_ => ((P0_ k_ ∨ P2_ k_) ∨ w.heap.size ≤ k_))) (HO2.out) (fun k_ hk => hk))))) (Reps.none _ _)))); intro v157 w8 ho9 hb hg_ hnew_; clear hg_ hnew_; (first | rw [← Ny156.out] at ho9 | (simp only [Int.reduceToNat] at ho9; rw [← Ny156.out] at ho9)); have n0_ := Aside0.mk (Kd.V_elder' (by (with_reducible repeat (first | apply Kd.V_alloc | apply Kd.V_drewN | apply Kd.V_drew)); exact HO0.out) (Kd.N_base ho9) hb); have n1_ := Aside0.mk (Kd.V_elder' (by (with_reducible repeat (first | apply Kd.V_alloc | apply Kd.V_drewN | apply Kd.V_drew)); exact HO2.out) (Kd.N_base ho9) hb); have n2_ := Aside0.mk (Kd.N_lower ho9 (below_size (by repeat (first | (with_reducible first | exact HB.out | apply below_alloc | apply pw_below_drewN | apply below_drew1) | exact HB.out)))); have n3_ := Aside0.mk (below_step (by repeat (first | (with_reducible first | exact HB.out | apply below_alloc | apply pw_below_drewN | apply below_drew1) | exact HB.out)) hb); clear HO0; clear HO2; clear HB; have HO0 := n0_; have HO2 := n1_; have HO158 := n2_; have HB := n3_; clear n0_ n1_ n2_ n3_; clear hb ho9; obtain ⟨Ao10, co10, eo10⟩ := Kd.N_slice HO158.out; subst eo10) | ((with_reducible refine gate_callee (f := 35) rfl ?_); refine goesL_ (some 12) rfl rfl Try.func35 (by kernel_rfl) rfl #[.slice Ao10 y156.length co10] rfl (by (try simp only [List.map_toArray, List.map_cons, List.map_nil]); first | done | rfl | (simp only [List.length_drop, List.length_take]; rfl)) ?_; (with_reducible refine (kernel_alike.calls k _ _ y156 true _ ?side1 ?side2 A4.out).mono ?_); (case side1 => repeat (first | exact (Kd.N_reads' HO158.out).2.2 | (with_reducible refine Kd.C_alloc ?_ _) | (with_reducible refine Kd.C_drewN ?_ _) | (with_reducible refine Kd.C_drew ?_))); (case side2 => exact (Kd.N_reads' HO158.out).2.1); rintro e w' ⟨rfl, ⟨nd, rfl⟩⟩; refine ⟨_, rfl, ?_⟩) | ((with_reducible refine gate_callee (f := 51) rfl ?_); refine goesL_ (some 15) rfl rfl Try.func51 (by kernel_rfl) rfl #[.slice A0 l0.length c0] rfl (by (try simp only [List.map_toArray, List.map_cons, List.map_nil]); first | done | rfl | (simp only [List.length_drop, List.length_take]; rfl)) ?_; (with_reducible refine (slices_Clone_byte_byte.calls _ _ l0 t160 _ ?side1 ?side2 A6.out).mono ?_); (case side1 => repeat (first | exact (Kd.V_reads' HO0.out).2.2 | (with_reducible refine Kd.C_alloc ?_ _) | (with_reducible refine Kd.C_drewN ?_ _) | (with_reducible refine Kd.C_drew ?_))); (case side2 => exact (Kd.V_reads' HO0.out).2.1); rintro e w11 ⟨v161, rfl, ho0, hb⟩; refine ⟨_, rfl, ?_⟩; have n0_ := Aside0.mk (Kd.V_elder' (by (with_reducible repeat (first | apply Kd.V_alloc | apply Kd.V_drewN | apply Kd.V_drew)); exact HO0.out) (Kd.R_base ho0) hb); have n1_ := Aside0.mk (Kd.V_elder' (by (with_reducible repeat (first | apply Kd.V_alloc | apply Kd.V_drewN | apply Kd.V_drew)); exact HO2.out) (Kd.R_base ho0) hb); have n2_ := Aside0.mk (Kd.N_elder' (by (with_reducible repeat (first | apply Kd.N_alloc | apply Kd.N_drewN | apply Kd.N_drew)); exact HO158.out) (Kd.R_base ho0) hb); have n3_ := Aside0.mk (Kd.R_lower (Kd.R_newM (M := fun k_ => (w.heap.size ≤ k_)) ho0 (below_size (by repeat (first | (with_reducible first | exact HB.out | apply below_alloc | apply pw_below_drewN | apply below_drew1) | exact HB.out))) (fun k_ h_ => h_)) (below_size (by repeat (first | (with_reducible first | exact HB.out | apply below_alloc | apply pw_below_drewN | apply below_drew1) | exact HB.out)))); have n4_ := Aside0.mk (below_step (by repeat (first | (with_reducible first | exact HB.out | apply below_alloc | apply pw_below_drewN | apply below_drew1) | exact HB.out)) hb); clear HO0; clear HO2; clear HO158; clear HB; have HO0 := n0_; have HO2 := n1_; have HO158 := n2_; have HO162 := n3_; have HB := n4_; clear n0_ n1_ n2_ n3_ n4_; (try clear hb); (try clear hb2); (try clear hk); (try clear hi); (try clear ho0); obtain ⟨Ao12, co12, eo12⟩ := Kd.R_slice HO162.out; subst eo12) | ((with_reducible refine gate_callee (f := 36) rfl ?_); refine goesL_ (some 19) rfl rfl Try.func36 (by kernel_rfl) rfl #[.slice Ao12 t160.length co12, .int .u8 a1, .slice A2 l2.length c2] rfl (by (try simp only [List.map_toArray, List.map_cons, List.map_nil]); first | done | rfl | (simp only [List.length_drop, List.length_take]; rfl)) ?_; (with_reducible refine (kernel_add.calls k (fun k_ => some k_ = (.slice Ao12 t160.length co12 : Value).ownBlock) (.slice Ao12 t160.length co12) t160 a1 _ _ l2 t163 w _ ?side1 ?side2 ?side3 ?side4 A7.out).mono ?_); (case side1 => repeat (first | (with_reducible first | exact HB.out | apply below_alloc | apply pw_below_drewN | apply below_drew1) | exact HB.out)); (case side2 => exact Kd.R_tight rfl HO162.out); (case side3 => exact Kd.C_kept_ownV (HO2.out) (fun k_ hk_ hs_ => (hk_.2) hs_)); (case side4 => exact (Kd.V_reads' HO2.out).2.1); rintro e w13 ⟨rfl, hy0, hb, hkp⟩; refine ⟨_, rfl, ?_⟩; have n0_ := Aside0.mk (Kd.V_mono (ok' := fun k_ => ((P0_ k_ ∨ P2_ k_) ∨ w.heap.size ≤ k_) ∧ some k_ ≠ (.slice Ao10 y156.length co10 : Value).ownBlock ∧ some k_ ≠ (.slice Ao12 t160.length co12 : Value).ownBlock) (Kd.V_keptB (HO0.out) hkp (fun k_ hk_ hs_ => (hk_.2) hs_)) (fun k_ hk_ => ⟨hk_.1.1.1, hk_.1.1.2, hk_.1.2⟩)); have n1_ := Aside0.mk (Kd.V_mono (ok' := fun k_ => ((P0_ k_ ∨ P2_ k_) ∨ w.heap.size ≤ k_) ∧ some k_ ≠ (.slice Ao10 y156.length co10 : Value).ownBlock ∧ some k_ ≠ (.slice Ao12 t160.length co12 : Value).ownBlock) (Kd.V_keptB (HO2.out) hkp (fun k_ hk_ hs_ => (hk_.2) hs_)) (fun k_ hk_ => ⟨hk_.1.1.1, hk_.1.1.2, hk_.1.2⟩)); have n2_ := Aside0.mk (Kd.N_mono (ok' := fun k_ => ((P0_ k_ ∨ P2_ k_) ∨ w.heap.size ≤ k_) ∧ some k_ ≠ (.slice Ao12 t160.length co12 : Value).ownBlock) (Kd.N_keptB (HO158.out) hkp (fun k_ hk_ hs_ => (hk_.2) hs_)) (fun k_ hk_ => ⟨hk_.1.1, hk_.1.2⟩)); have n3_ := Aside0.mk (Kd.R_reok rfl hy0 (fun k_ e_ => HO162.out.1 k_ e_)); have n4_ := Aside0.mk (hb); clear HO0; clear HO2; clear HO158; clear HO162; clear HB; have HO0 := n0_; have HO2 := n1_; have HO158 := n2_; have HO162 := n3_; have HB := n4_; clear n0_ n1_ n2_ n3_ n4_; (try clear hb); (try clear hkp); (try clear hy0)))
    go_ret2
    exact ⟨_, by first | rfl | (simp [errW_none, errW_some] <;> rfl) | (simp [*, errW_none, errW_some] <;> rfl), by (with_reducible repeat (first | apply Kd.R_alloc | apply Kd.R_drewN | apply Kd.R_drew)); exact Kd.R_mono HO162.out (fun _ hk => hk.1), by repeat (first | (with_reducible first | exact HB.out | apply below_alloc | apply pw_below_drewN | apply below_drew1) | exact HB.out)⟩
  · replace c5 := Bool.eq_false_iff.mpr c5
    subst c5
    have H1 : (some (([] : List Int), 20)) = some (r1, r2) := by rw [if_neg (show ¬ (false = true) by decide)] at H; exact H
    clear H
    have H := H1
    clear H1
    simp only [Option.some.injEq, Prod.mk.injEq] at H
    obtain ⟨rfl, rfl⟩ := H
    go_enter Try.func37, Try.ntmps37
    go_wp2_with (first | ((with_reducible refine gate_dst (N := 11) rfl ?_); refine Kd.N_lit (Kd.slice 5 (Kd.int .u8)) _ 23 ?hg (N' := 11) ?hd (xs := ([l0, l2] : List (List Int))) (inner := [.slice A0 l0.length c0, .slice A2 l2.length c2]) (ok := (fun k_ => ((P0_ k_ ∨ P2_ k_) ∨ w.heap.size ≤ k_))) (okp := (fun k_ => ((P0_ k_ ∨ P2_ k_) ∨ w.heap.size ≤ k_))) ?hr ?hp (fun _ hk => hk) ((show ∀ k_, w.heap.size ≤ k_ → (fun k_ => ((P0_ k_ ∨ P2_ k_) ∨ w.heap.size ≤ k_)) k_ from fun k_ hk => (.inr (Nat.le_trans (below_size (by repeat (first | (with_reducible first | exact HB.out | apply below_alloc | apply pw_below_drewN | apply below_drew1) | exact HB.out))) hk))) _ (Nat.le_refl _)) (Below.refl _ _) (Nat.le_refl _) (by simp) ?_; (case hd => rfl); (case hg => rfl); (case hr => first | (go_simp; done) | (go_simp; rfl)); (case hp => exact (Reps.one (show Kd.FK (Kd.slice 5 (Kd.int .u8)) _ _ l0 [.slice A0 l0.length c0] from (Kd.FK_slice_mk (Kd.V_reads' (Kd.V_mono (ok' := (fun k_ => ((P0_ k_ ∨ P2_ k_) ∨ w.heap.size ≤ k_))) (HO0.out) (fun k_ hk => hk))).2.1 (Kd.V_F (Kd.V_mono (ok' := (fun k_ => ((P0_ k_ ∨ P2_ k_) ∨ w.heap.size ≤ k_))) (HO0.out) (fun k_ hk => hk))))) (Reps.one (show Kd.FK (Kd.slice 5 (Kd.int .u8)) _ _ l2 [.slice A2 l2.length c2] from (Kd.FK_slice_mk (Kd.V_reads' (Kd.V_mono (ok' := (fun k_ => ((P0_ k_ ∨ P2_ k_) ∨ w.heap.size ≤ k_))) (HO2.out) (fun k_ hk => hk))).2.1 (Kd.V_F (Kd.V_mono (ok' := (fun k_ => ((P0_ k_ ∨ P2_ k_) ∨ w.heap.size ≤ k_))) (HO2.out) (fun k_ hk => hk))))) (Reps.none _ _)))); intro v157 w14 ho15 hb hg_ hnew_; clear hg_ hnew_; (first | rw [← Ny156.out] at ho15 | (simp only [Int.reduceToNat] at ho15; rw [← Ny156.out] at ho15)); have n0_ := Aside0.mk (Kd.V_elder' (by (with_reducible repeat (first | apply Kd.V_alloc | apply Kd.V_drewN | apply Kd.V_drew)); exact HO0.out) (Kd.N_base ho15) hb); have n1_ := Aside0.mk (Kd.V_elder' (by (with_reducible repeat (first | apply Kd.V_alloc | apply Kd.V_drewN | apply Kd.V_drew)); exact HO2.out) (Kd.N_base ho15) hb); have n2_ := Aside0.mk (Kd.N_lower ho15 (below_size (by repeat (first | (with_reducible first | exact HB.out | apply below_alloc | apply pw_below_drewN | apply below_drew1) | exact HB.out)))); have n3_ := Aside0.mk (below_step (by repeat (first | (with_reducible first | exact HB.out | apply below_alloc | apply pw_below_drewN | apply below_drew1) | exact HB.out)) hb); clear HO0; clear HO2; clear HB; have HO0 := n0_; have HO2 := n1_; have HO158 := n2_; have HB := n3_; clear n0_ n1_ n2_ n3_; clear hb ho15; obtain ⟨Ao16, co16, eo16⟩ := Kd.N_slice HO158.out; subst eo16) | ((with_reducible refine gate_callee (f := 35) rfl ?_); refine goesL_ (some 12) rfl rfl Try.func35 (by kernel_rfl) rfl #[.slice Ao16 y156.length co16] rfl (by (try simp only [List.map_toArray, List.map_cons, List.map_nil]); first | done | rfl | (simp only [List.length_drop, List.length_take]; rfl)) ?_; (with_reducible refine (kernel_alike.calls k _ _ y156 false _ ?side1 ?side2 A4.out).mono ?_); (case side1 => repeat (first | exact (Kd.N_reads' HO158.out).2.2 | (with_reducible refine Kd.C_alloc ?_ _) | (with_reducible refine Kd.C_drewN ?_ _) | (with_reducible refine Kd.C_drew ?_))); (case side2 => exact (Kd.N_reads' HO158.out).2.1); rintro e w' ⟨rfl, ⟨nd, rfl⟩⟩; refine ⟨_, rfl, ?_⟩))
    go_ret2
    exact ⟨_, by first | rfl | (simp [errW_none, errW_some] <;> rfl) | (simp [*, errW_none, errW_some] <;> rfl), by first | exact Kd.R_nil _ _ _ _ _ | exact Kd.N_nil _ _ _ _ _ | exact Kd.V_nil _ _ _ _ _ | exact Kd.Q_nil _ _ _ _ _ | exact Kd.S_nil _ _ _ _ _, by repeat (first | (with_reducible first | exact HB.out | apply below_alloc | apply pw_below_drewN | apply below_drew1) | exact HB.out)⟩

end Go.Proofs.Ythhncoogmncdkaa.PA
