import Derived.Test.YthhncoogmncdkaaPAx0
import Derived.Test.YthhncoogmncdkaaPAx3
-- written by the session's own program (wip/prt.py) over the kit's print: not print.sh's own text
namespace Go.Proofs.Ythhncoogmncdkaa.PA
open Go.RowKit Go.Proofs.YthhncoogmncdkaaW.PrintWords Go.Proofs.YthhncoogmncdkaaW.PrintLast Go.Proofs.YthhncoogmncdkaaW.PrintMore
attribute [local go_sem] max2_int min2_int max_two min_two max_three min_three max_four min_four   -- for this text's walks alone
set_option linter.unusedVariables false
set_option linter.unusedSimpArgs false

/-! ### matrix_Check: function 40 -/
mutual
def matrix_Check.j0 : Nat → List (List Int) → Bool → Option (Int)
  | 0, _, _ => none
  | k + 1, x0, x12 => if x12 = true then (some 30) else (matrix_Check.l0 k x0 x0 (x0.length : Int) 0)
def matrix_Check.l0 : Nat → List (List Int) → List (List Int) → Int → Int → Option (Int)
  | 0, _, _, _, _ => none
  | k + 1, x0, x13, x14, x15 => if x15 < x14 then (if 0 ≤ x15 then (if x15 < (x13.length : Int) then (if ((rd_L1 x13 x15).length : Int) < 1 then (some 30) else (if ((rd_L1 x13 x15).length : Int) > 32 then (some 30) else (if 0 < (x0.length : Int) then (if ((rd_L1 x13 x15).length : Int) = ((rd_L1 x0 0).length : Int) then (matrix_Check.l0 k x0 x13 x14 (wrap64 (x15 + 1))) else (some 30)) else (none)))) else (none)) else (none)) else (some 0)
end
def matrix_Check.f (k : Nat) (l0 : List (List Int)) : Option (Int) := if (l0.length : Int) < 1 then (matrix_Check.j0 k l0 true) else (matrix_Check.j0 k l0 (decide ((l0.length : Int) > 32)))
theorem matrix_Check.mono_l : ∀ k, (∀ y0 y1, LeO (matrix_Check.j0 k y0 y1) (matrix_Check.j0 (k + 1) y0 y1)) ∧ (∀ y0 y1 y2 y3, LeO (matrix_Check.l0 k y0 y1 y2 y3) (matrix_Check.l0 (k + 1) y0 y1 y2 y3))
  | 0 => ⟨fun _ _ r h => by simp [matrix_Check.j0] at h, fun _ _ _ _ r h => by simp [matrix_Check.l0] at h⟩
  | k + 1 => by
    obtain ⟨ih0, ih1⟩ := matrix_Check.mono_l k
    refine ⟨?_, ?_⟩
    · intro y0 y1
      unfold matrix_Check.j0
      repeat' first
      | (with_reducible exact ih0 _ _)
      | (with_reducible exact ih1 _ _ _ _)
      | (with_reducible exact LeO.refl _)
      | (with_reducible exact LeO.none _)
      | (with_reducible refine LeO.ite ?_ ?_)
      | (with_reducible refine LeO.bind ?_ (fun _ => ?_))
      | exact ih0 _ _
      | exact ih1 _ _ _ _
      | exact LeO.none _
      | refine LeO.ite ?_ ?_
      | refine LeO.bind ?_ (fun _ => ?_)
    · intro y0 y1 y2 y3
      unfold matrix_Check.l0
      repeat' first
      | (with_reducible exact ih0 _ _)
      | (with_reducible exact ih1 _ _ _ _)
      | (with_reducible exact LeO.refl _)
      | (with_reducible exact LeO.none _)
      | (with_reducible refine LeO.ite ?_ ?_)
      | (with_reducible refine LeO.bind ?_ (fun _ => ?_))
      | exact ih0 _ _
      | exact ih1 _ _ _ _
      | exact LeO.none _
      | refine LeO.ite ?_ ?_
      | refine LeO.bind ?_ (fun _ => ?_)
theorem matrix_Check.mono : ∀ a0 k, LeO (matrix_Check.f k a0) (matrix_Check.f (k + 1) a0) := by
  intro a0 k
  obtain ⟨ih0, ih1⟩ := matrix_Check.mono_l k
  unfold matrix_Check.f
  repeat' first
      | (with_reducible exact ih0 _ _)
      | (with_reducible exact ih1 _ _ _ _)
      | (with_reducible exact LeO.refl _)
      | (with_reducible exact LeO.none _)
      | (with_reducible refine LeO.ite ?_ ?_)
      | (with_reducible refine LeO.bind ?_ (fun _ => ?_))
      | exact ih0 _ _
      | exact ih1 _ _ _ _
      | exact LeO.none _
      | refine LeO.ite ?_ ?_
      | refine LeO.bind ?_ (fun _ => ?_)
set_option maxHeartbeats 8000000 in
set_option maxRecDepth 100000 in
theorem matrix_Check.calls (k : Nat) (A0 : Option Addr) (c0 : Nat) (l0 : List (List Int)) (r : Int) (w : World) (hr0 : Kd.C (Kd.slice 5 (Kd.int .u8)) w A0 l0.length l0) (hc0 : l0.length ≤ c0) (h : matrix_Check.f k l0 = some r) :
    Calls Try.prog 40 #[.slice A0 l0.length c0] w fun e w' => e = .returned (.int .i64 r) ∧ Drawn0 w w' := by
  have HR0 := Aside0.mk hr0
  have HC0 := Aside0.mk hc0
  clear hr0 hc0
  have H : (if (l0.length : Int) < 1 then (matrix_Check.j0 k l0 true) else (matrix_Check.j0 k l0 (decide ((l0.length : Int) > 32)))) = some r := h
  clear h
  have HC2 := Aside0.mk H
  clear H
  go_enter Try.func40, Try.ntmps40
  go_upto_region 1 with (fail)
  go_cut [12] (fun v12 wc => ∃ (kq : Nat) (x12_1 : Bool), v12 = .bool x12_1 ∧ Aside0 (matrix_Check.j0 kq l0 x12_1 = some r) ∧ Aside0 (kq ≤ k) ∧ Drawn0 w wc)
  case first =>
    have H := HC2.out
    clear HC2
    by_cases c3 : (l0.length : Int) < 1
    · rw [if_pos c3] at H
      have c3b0 : decide ((l0.length : Int) < 1) = true := decide_eq_true c3
      have c3b1 : decide (l0.length < 1) = true := decide_eq_true (by omega)
      clear c3
      (first | rw [c3b0] | (simp only [i64_w, i32_w]; rw [c3b0]) | skip)
      have H' := Aside0.mk H
      clear H
      go_wp2
      go_meet
      case rel => exact ⟨_, (true), (by first | rfl | (simp; done) | (simp [*]; done)), H', ⟨by first | omega | exact Nat.le_refl _⟩, by repeat (first | exact Drawn0.refl _ | apply Drawn0.step)⟩
    · rw [if_neg c3] at H
      have c3b0 : decide ((l0.length : Int) < 1) = false := decide_eq_false c3
      have c3b1 : decide (l0.length < 1) = false := decide_eq_false (by omega)
      clear c3
      (first | rw [c3b0] | (simp only [i64_w, i32_w]; rw [c3b0]) | skip)
      have H' := Aside0.mk H
      clear H
      go_wp2
      go_meet
      case rel => exact ⟨_, (decide ((l0.length : Int) > 32)), (by first | rfl | (simp; done) | (simp [*]; done)), H', ⟨by first | omega | exact Nat.le_refl _⟩, by repeat (first | exact Drawn0.refl _ | apply Drawn0.step)⟩
  case rest =>
    clear HC2
    try clear p2
    try clear c3
    try clear c3b0
    try clear c3b1
    obtain ⟨kq, x12_1, rfl, HA, HJ1, ⟨mc1, rfl⟩⟩ := hcut
    cases kq with
    | zero => exact absurd HA.out (by simp [matrix_Check.j0])
    | succ kj1 =>
      have H := HA.out
      clear HA
      simp only [matrix_Check.j0] at H
      by_cases c4 : x12_1 = true
      · subst c4
        have H1 : (some 30) = some r := by rw [if_pos rfl] at H; exact H
        clear H
        have H := H1
        clear H1
        obtain rfl := Option.some.inj H
        go_wp2
        go_ret
        exact ⟨by first | rfl | (simp; done) | (simp [*]; done), by repeat (first | exact Drawn0.refl _ | apply Drawn0.step)⟩
      · replace c4 := Bool.eq_false_iff.mpr c4
        subst c4
        have H1 : (matrix_Check.l0 kj1 l0 l0 (l0.length : Int) 0) = some r := by rw [if_neg (show ¬ (false = true) by decide)] at H; exact H
        clear H
        have H := H1
        clear H1
        have H' := Aside0.mk H
        clear H
        go_wp2
        go_loopg [15] kj1 (fun kq v15 w' => ∃ (x15_2 : Int), v15 = .int .i64 x15_2 ∧ Aside0 (matrix_Check.l0 kq l0 l0 (l0.length : Int) x15_2 = some r) ∧ Aside0 (kq ≤ kj1) ∧ Drawn0 w w')
        case atStart => exact ⟨(0), (by first | rfl | (simp; done) | (simp [*]; done)), H', ⟨Nat.le_refl _⟩, by repeat (first | exact Drawn0.refl _ | apply Drawn0.step)⟩
        case round =>
          clear H'
          try clear c1
          try clear p2
          try clear c3
          try clear c3b0
          try clear c3b1
          try clear c4
          try clear p2
          obtain ⟨x15_2, rfl, HA, HK2, ⟨m2, rfl⟩⟩ := hrel
          cases gk with
          | zero => exact absurd HA.out (by simp [matrix_Check.l0])
          | succ k2 =>
            have H := HA.out
            clear HA
            simp only [matrix_Check.l0] at H
            by_cases c5 : x15_2 < (l0.length : Int)
            · rw [if_pos c5] at H
              have c5b0 : decide (x15_2 < (l0.length : Int)) = true := decide_eq_true c5
              clear c5
              by_cases c6 : 0 ≤ x15_2
              · rw [if_pos c6] at H
                have c6b0 : decide (0 ≤ x15_2) = true := decide_eq_true c6
                clear c6
                by_cases c7 : x15_2 < (l0.length : Int)
                · rw [if_pos c7] at H
                  have c7b0 : decide (x15_2 < (l0.length : Int)) = true := decide_eq_true c7
                  clear c7
                  by_cases c8 : ((rd_L1 l0 x15_2).length : Int) < 1
                  · rw [if_pos c8] at H
                    have c8b0 : decide (((rd_L1 l0 x15_2).length : Int) < 1) = true := decide_eq_true c8
                    have c8b1 : decide ((rd_L1 l0 x15_2).length < 1) = true := decide_eq_true (by omega)
                    clear c8
                    obtain rfl := Option.some.inj H
                    have p118 : 0 ≤ (x15_2 : Int) := of_decide_eq_true (by first | (with_reducible assumption) | assumption)
                    have q118 : x15_2 < (l0.length : Int) := of_decide_eq_true (by first | (with_reducible assumption) | assumption)
                    obtain ⟨ad118, A118_0, c118_0, e118, hx118_0, hl118_0, hi118_0⟩ := at_L1 HR0.out x15_2 p118 q118
                    cases e118
                    have HR118_0 := Aside0.mk hi118_0
                    have HC118_0 := Aside0.mk hl118_0
                    clear hi118_0 hl118_0
                    replace p118 := eq_true p118
                    replace q118 := eq_true q118
                    go_wp2
                    go_ret
                    exact ⟨by first | rfl | (simp; done) | (simp [*]; done), by repeat (first | exact Drawn0.refl _ | apply Drawn0.step)⟩
                  · rw [if_neg c8] at H
                    have c8b0 : decide (((rd_L1 l0 x15_2).length : Int) < 1) = false := decide_eq_false c8
                    have c8b1 : decide ((rd_L1 l0 x15_2).length < 1) = false := decide_eq_false (by omega)
                    clear c8
                    by_cases c9 : ((rd_L1 l0 x15_2).length : Int) > 32
                    · rw [if_pos c9] at H
                      have c9b0 : decide (32 < ((rd_L1 l0 x15_2).length : Int)) = true := decide_eq_true c9
                      have c9b1 : decide (32 < (rd_L1 l0 x15_2).length) = true := decide_eq_true (by omega)
                      clear c9
                      obtain rfl := Option.some.inj H
                      have p118 : 0 ≤ (x15_2 : Int) := of_decide_eq_true (by first | (with_reducible assumption) | assumption)
                      have q118 : x15_2 < (l0.length : Int) := of_decide_eq_true (by first | (with_reducible assumption) | assumption)
                      obtain ⟨ad118, A118_0, c118_0, e118, hx118_0, hl118_0, hi118_0⟩ := at_L1 HR0.out x15_2 p118 q118
                      cases e118
                      have HR118_0 := Aside0.mk hi118_0
                      have HC118_0 := Aside0.mk hl118_0
                      clear hi118_0 hl118_0
                      replace p118 := eq_true p118
                      replace q118 := eq_true q118
                      go_wp2
                      go_ret
                      exact ⟨by first | rfl | (simp; done) | (simp [*]; done), by repeat (first | exact Drawn0.refl _ | apply Drawn0.step)⟩
                    · rw [if_neg c9] at H
                      have c9b0 : decide (32 < ((rd_L1 l0 x15_2).length : Int)) = false := decide_eq_false c9
                      have c9b1 : decide (32 < (rd_L1 l0 x15_2).length) = false := decide_eq_false (by omega)
                      clear c9
                      by_cases c10 : 0 < (l0.length : Int)
                      · rw [if_pos c10] at H
                        have c10b0 : decide (0 < (l0.length : Int)) = true := decide_eq_true c10
                        have c10b1 : decide (0 < l0.length) = true := decide_eq_true (by omega)
                        clear c10
                        by_cases c11 : ((rd_L1 l0 x15_2).length : Int) = ((rd_L1 l0 0).length : Int)
                        · rw [if_pos c11] at H
                          have c11b0 : (((rd_L1 l0 x15_2).length : Int) == ((rd_L1 l0 0).length : Int)) = true := beq_iff_eq.mpr c11
                          have c11b1 : (((rd_L1 l0 x15_2).length : Int) != ((rd_L1 l0 0).length : Int)) = false := bne_eq_false_iff_eq.mpr c11
                          have c11b2 : ((rd_L1 l0 x15_2).length == (rd_L1 l0 0).length) = true := by first | simpa using c11 | (simp at c11 ⊢; omega)
                          clear c11
                          have H' := Aside0.mk H
                          clear H
                          have p118 : 0 ≤ (x15_2 : Int) := of_decide_eq_true (by first | (with_reducible assumption) | assumption)
                          have q118 : x15_2 < (l0.length : Int) := of_decide_eq_true (by first | (with_reducible assumption) | assumption)
                          obtain ⟨ad118, A118_0, c118_0, e118, hx118_0, hl118_0, hi118_0⟩ := at_L1 HR0.out x15_2 p118 q118
                          cases e118
                          have HR118_0 := Aside0.mk hi118_0
                          have HC118_0 := Aside0.mk hl118_0
                          clear hi118_0 hl118_0
                          replace p118 := eq_true p118
                          replace q118 := eq_true q118
                          have p119 : 0 ≤ (0 : Int) := (by omega)
                          have q119 : 0 < (l0.length : Int) := of_decide_eq_true (by first | (with_reducible assumption) | assumption)
                          obtain ⟨ad119, A119_0, c119_0, e119, hx119_0, hl119_0, hi119_0⟩ := at_L1 HR0.out 0 p119 q119
                          obtain rfl : ad118 = ad119 := (by injection e119)
                          have qi119 : (0 < l0.length) = True := eq_true (by omega)
                          (try rw [show ((0 : Int)).toNat = 0 from rfl] at hx119_0)
                          (try rw [Addr.add_zero'] at hx119_0)
                          have HR119_0 := Aside0.mk hi119_0
                          have HC119_0 := Aside0.mk hl119_0
                          clear hi119_0 hl119_0
                          replace p119 := eq_true p119
                          replace q119 := eq_true q119
                          go_wp2
                          go_roundg k2
                          case measure => have := HJ1.out; have := HK2.out; omega
                          case rel => exact ⟨(wrap64 (x15_2 + 1)), (by first | rfl | (simp; done) | (simp [*]; done)), H', ⟨by have := HJ1.out; have := HK2.out; omega⟩, by repeat (first | exact Drawn0.refl _ | apply Drawn0.step)⟩
                        · rw [if_neg c11] at H
                          have c11b0 : (((rd_L1 l0 x15_2).length : Int) == ((rd_L1 l0 0).length : Int)) = false := beq_eq_false_iff_ne.mpr c11
                          have c11b1 : (((rd_L1 l0 x15_2).length : Int) != ((rd_L1 l0 0).length : Int)) = true := bne_iff_ne.mpr c11
                          have c11b2 : ((rd_L1 l0 x15_2).length == (rd_L1 l0 0).length) = false := by first | simpa using c11 | (simp at c11 ⊢; omega)
                          obtain rfl := Option.some.inj H
                          have p118 : 0 ≤ (x15_2 : Int) := of_decide_eq_true (by first | (with_reducible assumption) | assumption)
                          have q118 : x15_2 < (l0.length : Int) := of_decide_eq_true (by first | (with_reducible assumption) | assumption)
                          obtain ⟨ad118, A118_0, c118_0, e118, hx118_0, hl118_0, hi118_0⟩ := at_L1 HR0.out x15_2 p118 q118
                          cases e118
                          have HR118_0 := Aside0.mk hi118_0
                          have HC118_0 := Aside0.mk hl118_0
                          clear hi118_0 hl118_0
                          replace p118 := eq_true p118
                          replace q118 := eq_true q118
                          have p119 : 0 ≤ (0 : Int) := (by omega)
                          have q119 : 0 < (l0.length : Int) := of_decide_eq_true (by first | (with_reducible assumption) | assumption)
                          obtain ⟨ad119, A119_0, c119_0, e119, hx119_0, hl119_0, hi119_0⟩ := at_L1 HR0.out 0 p119 q119
                          obtain rfl : ad118 = ad119 := (by injection e119)
                          have qi119 : (0 < l0.length) = True := eq_true (by omega)
                          (try rw [show ((0 : Int)).toNat = 0 from rfl] at hx119_0)
                          (try rw [Addr.add_zero'] at hx119_0)
                          have HR119_0 := Aside0.mk hi119_0
                          have HC119_0 := Aside0.mk hl119_0
                          clear hi119_0 hl119_0
                          replace p119 := eq_true p119
                          replace q119 := eq_true q119
                          go_wp2
                          go_ret
                          exact ⟨by first | rfl | (simp; done) | (simp [*]; done), by repeat (first | exact Drawn0.refl _ | apply Drawn0.step)⟩
                      · rw [if_neg c10] at H
                        exact absurd H (by simp)
                · rw [if_neg c7] at H
                  exact absurd H (by simp)
              · rw [if_neg c6] at H
                exact absurd H (by simp)
            · rw [if_neg c5] at H
              have c5b0 : decide (x15_2 < (l0.length : Int)) = false := decide_eq_false c5
              clear c5
              obtain rfl := Option.some.inj H
              go_wp2
              go_ret
              exact ⟨by first | rfl | (simp; done) | (simp [*]; done), by repeat (first | exact Drawn0.refl _ | apply Drawn0.step)⟩

-- NOT PRINTED: function 63 (gf_table)

/-! ### gf_Pow: function 62 -/
def gf_Pow.f (a0 : Int) (a1 : Int) : Option (Int × Int) := if a1 = 0 then some (1, 0) else if a0 = 0 then (if a1 < 0 then some (0, 10) else some (0, 0)) else if 0 ≤ a0 ∧ a0 < 256 then some (powI (powIx (logI a0.toNat) a1).toNat, 0) else none
theorem gf_Pow.calls (a0 : Int) (a1 : Int) (r1 : Int) (r2 : Int) (w : World) (h : gf_Pow.f a0 a1 = some (r1, r2)) :
    Calls Try.prog 62 #[.int .u8 a0, .int .i64 a1] w fun e w' => e = .returned (.tuple #[.int .u8 r1, .int .i64 r2]) ∧ Below w.heap.size w w' := by
  unfold gf_Pow.f at h
  by_cases hn : a1 = 0
  · rw [if_pos hn] at h
    injection h with h
    injection h with h1 h2
    subst hn h1 h2
    exact pow_one a0 w
  rw [if_neg hn] at h
  by_cases hz : a0 = 0
  · rw [if_pos hz] at h
    subst hz
    by_cases hl : a1 < 0
    · rw [if_pos hl] at h
      injection h with h
      injection h with h1 h2
      subst h1 h2
      exact pow_neg a1 hl w
    · rw [if_neg hl] at h
      injection h with h
      injection h with h1 h2
      subst h1 h2
      exact pow_pos a1 (by omega) w
  · rw [if_neg hz] at h
    by_cases hb : 0 ≤ a0 ∧ a0 < 256
    · rw [if_pos hb] at h
      injection h with h
      injection h with h1 h2
      subst h1 h2
      exact pow_calls a0 a1 hb.1 hb.2 hz hn w
    · rw [if_neg hb] at h; cases h

/-! ### gf_Inv: function 55 -/
def gf_Inv.f (a0 : Int) : Option (Int × Int) := (gf_Pow.f a0 (-1)).bind fun bt120 => (some (bt120.1, bt120.2))
set_option maxHeartbeats 8000000 in
set_option maxRecDepth 100000 in
theorem gf_Inv.calls (a0 : Int) (r1 : Int) (r2 : Int) (w : World) (h : gf_Inv.f a0 = some (r1, r2)) :
    Calls Try.prog 55 #[.int .u8 a0] w fun e w' => e = .returned (.tuple #[.int .u8 r1, .int .i64 r2]) ∧ Below w.heap.size w w' := by
  have HB := Aside0.mk (Below.refl w.heap.size w)
  have H : ((gf_Pow.f a0 (-1)).bind fun bt120 => (some (bt120.1, bt120.2))) = some (r1, r2) := h
  clear h
  replace H := Option.bind_eq_some_iff.mp H
  obtain ⟨⟨t120, t121⟩, A20, H⟩ := H
  replace H : (some (t120, t121)) = some (r1, r2) := H
  have A2 := Aside0.mk A20
  clear A20
  simp only [Option.some.injEq, Prod.mk.injEq] at H
  obtain ⟨rfl, rfl⟩ := H
  go_enter Try.func55, Try.ntmps55
  go_wp2_with (first | ((with_reducible refine gate_callee (f := 62) rfl ?_); refine goesL_ (some 5) rfl rfl Try.func62 (by kernel_rfl) rfl #[.int .u8 a0, .int .i64 (-1)] rfl (by (try simp only [List.map_toArray, List.map_cons, List.map_nil]); first | done | rfl | (simp only [List.length_drop, List.length_take]; rfl)) ?_; (with_reducible refine (gf_Pow.calls a0 (-1) t120 t121 _ A2.out).mono ?_); rintro e w3 ⟨rfl, hb⟩; refine ⟨_, rfl, ?_⟩; have n0_ := Aside0.mk (below_step (by repeat (first | (with_reducible first | exact HB.out | apply below_alloc | apply pw_below_drewN | apply below_drew1) | exact HB.out)) hb); clear HB; have HB := n0_; clear n0_; (try clear hb); (try clear hb2); (try clear hk); (try clear hi)))
  go_ret2
  exact ⟨by first | rfl | (simp [errW_none, errW_some] <;> rfl) | (simp [*, errW_none, errW_some] <;> rfl), by repeat (first | (with_reducible first | exact HB.out | apply below_alloc | apply pw_below_drewN | apply below_drew1) | exact HB.out)⟩

end Go.Proofs.Ythhncoogmncdkaa.PA
-- written by the session's own program (wip/prt.py) over the kit's print: not print.sh's own text
namespace Go.Proofs.Ythhncoogmncdkaa.PA
open Go.RowKit Go.Proofs.YthhncoogmncdkaaW.PrintWords Go.Proofs.YthhncoogmncdkaaW.PrintLast Go.Proofs.YthhncoogmncdkaaW.PrintMore
attribute [local go_sem] max2_int min2_int max_two min_two max_three min_three max_four min_four   -- for this text's walks alone
set_option linter.unusedVariables false
set_option linter.unusedSimpArgs false

-- NOT PRINTED: function 52 (matrix_made)

/-! ### matrix_One: function 38 -/
def matrix_One.M (n : Nat) : List (List Int) := (List.range n).map (fun i => (List.range n).map (fun j => if i = j then (1 : Int) else 0))
def matrix_One.f (a0 : Int) : Option (List (List Int) × Int) := if a0 < 1 then some ([], 2) else if a0 > 32 then some ([], 2) else some (matrix_One.M a0.toNat, 0)
theorem matrix_One.lit (i j : Nat) (W : World) : Calls Try.prog 53 #[.int .i64 i, .int .i64 j] W fun e w' => e = .returned (.int .u8 (if i = j then (1 : Int) else 0)) ∧ Below W.heap.size W w' := by
  by_cases h : i = j
  · subst h
    have h1 : (((i : Int)) == (i : Int)) = true := beq_self_eq_true _
    go_enter Try.func53, Try.ntmps53
    go_wp2_with fail
    go_ret
    exact ⟨by simp, Below.refl _ _⟩
  · have h1 : (((i : Int)) == (j : Int)) = false := beq_eq_false_iff_ne.mpr (by omega)
    rw [if_neg h]
    clear h
    go_enter Try.func53, Try.ntmps53
    go_wp2_with fail
    go_ret
    exact ⟨rfl, Below.refl _ _⟩
theorem matrix_One.calls (a0 : Int) (r1 : List (List Int)) (r2 : Int) (w : World) (h : matrix_One.f a0 = some (r1, r2)) :
    Calls Try.prog 38 #[.int .i64 a0] w fun e w' => ∃ v0_ : Value, e = .returned (.tuple #[v0_, .int .i64 r2]) ∧ Kd.S (Kd.slice 5 (Kd.int .u8)) 23 w' w.heap.size (fun _ => True) v0_ r1 ∧ Below w.heap.size w w' := by
  unfold matrix_One.f at h
  by_cases h1 : a0 < 1
  · rw [if_pos h1] at h
    injection h with h; injection h with ha hb; subst ha hb
    go_enter Try.func38, Try.ntmps38
    go_wp2_with fail
    go_ret2
    exact ⟨_, rfl, Kd.S_nil _ _ _ _ _, Below.refl _ _⟩
  rw [if_neg h1] at h
  by_cases h2 : a0 > 32
  · rw [if_pos h2] at h
    injection h with h; injection h with ha hb; subst ha hb
    go_enter Try.func38, Try.ntmps38
    go_wp2_with fail
    go_ret2
    exact ⟨_, rfl, Kd.S_nil _ _ _ _ _, Below.refl _ _⟩
  rw [if_neg h2] at h
  injection h with h; injection h with ha hb; subst hb
  obtain ⟨n, rfl⟩ := Int.eq_ofNat_of_zero_le (show 0 ≤ a0 by omega)
  rw [Int.toNat_natCast] at ha
  have HA := Lib.hid ha
  have hX := made_One n n (fun i j => if i = j then 1 else 0) w (by omega) (by omega) (fun i j W _ _ _ => matrix_One.lit i j W)
  have HX := Lib.hid hX
  have hn : n ≤ 32 := by omega
  clear ha hX
  go_enter Try.func38, Try.ntmps38
  go_wp2_with fail
  refine HX.out.mono ?_
  rintro e w' ⟨b, rfl, hr, hb⟩
  have HR := Lib.hid hr
  have HB := Lib.hid hb
  clear hr hb
  go_wp2_with fail
  go_ret2
  refine ⟨_, rfl, ?_, HB.out⟩
  rw [← HA.out]
  exact HR.out.S (Nat.le_refl _) (by omega) (by omega)

/-! ### matrix_Cauchy: function 39 -/
def matrix_Cauchy.at_ (k : Int) (i j : Nat) : Int := Go.bits .xor .u8 (k + i) (j : Int)
def matrix_Cauchy.G (k : Int) (i j : Nat) : Int := ((gf_Inv.f (matrix_Cauchy.at_ k i j)).getD (0, 0)).1
def matrix_Cauchy.M (k r : Nat) : List (List Int) := (List.range r).map (fun (i : Nat) => (List.range k).map (fun (j : Nat) => matrix_Cauchy.G k i j))
def matrix_Cauchy.f (a0 a1 : Int) : Option (List (List Int) × Int) := if a0 < 1 then some ([], 2) else if a0 > 12 then some ([], 2) else if a1 < 1 then some ([], 2) else if a1 > 4 then some ([], 2) else if ∀ i, i < a1.toNat → ∀ j, j < a0.toNat → (gf_Inv.f (matrix_Cauchy.at_ a0 i j)).isSome = true then some (matrix_Cauchy.M a0.toNat a1.toNat, 0) else none
set_option maxHeartbeats 1000000 in
theorem matrix_Cauchy.lit (k : Int) (hk0 : 1 ≤ k) (hk1 : k ≤ 12) (g : Nat) (i j : Nat) (hi : i < 100) (hj : j < 100) (W : World) (hg : W.cell? ⟨g, 0, none⟩ = some (.int .i64 k)) (hs : (gf_Inv.f (matrix_Cauchy.at_ k i j)).isSome = true) :
    Calls Try.prog 54 #[.int .i64 i, .int .i64 j, .pointer (some ⟨g, 0, none⟩)] W fun e w' => e = .returned (.int .u8 (matrix_Cauchy.G k i j)) ∧ Below W.heap.size W w' := by
  obtain ⟨⟨x, y⟩, hx⟩ := Option.isSome_iff_exists.1 hs
  have HX := Lib.hid hx
  have HG := Lib.hid (show matrix_Cauchy.G k i j = x by unfold matrix_Cauchy.G; rw [hx]; rfl)
  have ha : gf_Add.f (k + i) (j : Int) = some (matrix_Cauchy.at_ k i j) := rfl
  have HA := Lib.hid ha
  have e2 : (j : Int) < 256 := by omega
  clear hs hx ha
  go_enter Try.func54, Try.ntmps54
  go_wp2_with fail
  refine (gf_Add.calls (k + i) (j : Int) (matrix_Cauchy.at_ k i j) _ HA.out).mono ?_
  rintro e w' ⟨rfl, ⟨nd, rfl⟩⟩
  go_wp2_with fail
  refine (gf_Inv.calls (matrix_Cauchy.at_ k i j) x y _ HX.out).mono ?_
  rintro e w' ⟨rfl, hb⟩
  have HB := Lib.hid (below_step (pw_below_drewN (Below.refl W.heap.size W) nd) hb)
  clear hb hg
  go_wp2_with fail
  go_ret
  exact ⟨by rw [HG.out]; rfl, HB.out⟩
set_option maxHeartbeats 4000000 in
theorem matrix_Cauchy.calls (a0 a1 : Int) (r1 : List (List Int)) (r2 : Int) (w : World) (h : matrix_Cauchy.f a0 a1 = some (r1, r2)) :
    Calls Try.prog 39 #[.int .i64 a0, .int .i64 a1] w fun e w' => ∃ v0_ : Value, e = .returned (.tuple #[v0_, .int .i64 r2]) ∧ Kd.S (Kd.slice 5 (Kd.int .u8)) 23 w' w.heap.size (fun _ => True) v0_ r1 ∧ Below w.heap.size w w' := by
  unfold matrix_Cauchy.f at h
  by_cases h1 : a0 < 1
  · rw [if_pos h1] at h
    injection h with h; injection h with ha hb; subst ha hb
    go_enter Try.func39, Try.ntmps39
    go_wp2_with fail
    go_ret2
    exact ⟨_, rfl, Kd.S_nil _ _ _ _ _, below_alloc (Below.refl _ _) _⟩
  rw [if_neg h1] at h
  by_cases h2 : a0 > 12
  · rw [if_pos h2] at h
    injection h with h; injection h with ha hb; subst ha hb
    have d1 : decide (a0 < 1) = false := decide_eq_false h1
    go_enter Try.func39, Try.ntmps39
    go_wp2_with fail
    go_ret2
    exact ⟨_, rfl, Kd.S_nil _ _ _ _ _, below_alloc (Below.refl _ _) _⟩
  rw [if_neg h2] at h
  by_cases h3 : a1 < 1
  · rw [if_pos h3] at h
    injection h with h; injection h with ha hb; subst ha hb
    have d1 : decide (a0 < 1) = false := decide_eq_false h1
    have d2 : decide (a0 > 12) = false := decide_eq_false h2
    go_enter Try.func39, Try.ntmps39
    go_wp2_with fail
    go_ret2
    exact ⟨_, rfl, Kd.S_nil _ _ _ _ _, below_alloc (Below.refl _ _) _⟩
  rw [if_neg h3] at h
  by_cases h4 : a1 > 4
  · rw [if_pos h4] at h
    injection h with h; injection h with ha hb; subst ha hb
    have d1 : decide (a0 < 1) = false := decide_eq_false h1
    have d2 : decide (a0 > 12) = false := decide_eq_false h2
    have d3 : decide (a1 < 1) = false := decide_eq_false h3
    go_enter Try.func39, Try.ntmps39
    go_wp2_with fail
    go_ret2
    exact ⟨_, rfl, Kd.S_nil _ _ _ _ _, below_alloc (Below.refl _ _) _⟩
  rw [if_neg h4] at h
  by_cases h5 : ∀ i, i < a1.toNat → ∀ j, j < a0.toNat → (gf_Inv.f (matrix_Cauchy.at_ a0 i j)).isSome = true
  case neg => rw [if_neg h5] at h; cases h
  rw [if_pos h5] at h
  injection h with h; injection h with ha hb; subst hb
  obtain ⟨k, rfl⟩ := Int.eq_ofNat_of_zero_le (show 0 ≤ a0 by omega)
  obtain ⟨r, rfl⟩ := Int.eq_ofNat_of_zero_le (show 0 ≤ a1 by omega)
  simp only [Int.toNat_natCast] at ha h5
  have HA := Lib.hid ha
  have HB := Lib.hid (below_alloc (Below.refl w.heap.size w) (.cells #[.int .i64 (k : Int)] 3))
  have HG := Lib.hid (blk_new w (.cells #[.int .i64 (k : Int)] 3))
  have hx0 : (w.alloc (.cells #[.int .i64 (k : Int)] 3)).cell? ⟨w.heap.size, 0, none⟩ = some (.int .i64 (k : Int)) := (blk_cell HG.out 0).trans rfl
  have hX := made_Cauchy r k (fun i j => matrix_Cauchy.G (k : Int) i j) (w.alloc (.cells #[.int .i64 (k : Int)] 3)) (by omega) (by omega) ⟨w.heap.size, 0, none⟩ (fun i j W hi hj hb => matrix_Cauchy.lit (k : Int) (by omega) (by omega) w.heap.size i j (by omega) (by omega) W ((hb.cell (p := ⟨w.heap.size, 0, none⟩) (by exact blk_lt HG.out)).trans hx0) (h5 i hi j hj))
  have HX := Lib.hid hX
  have hk : (k : Int) ≤ 12 := by omega
  have hr : (r : Int) ≤ 4 := by omega
  have hk1 : (1 : Int) ≤ k := by omega
  have hr1 : (1 : Int) ≤ r := by omega
  clear ha hX h5 h1 h2 h3 h4
  go_enter Try.func39, Try.ntmps39
  go_wp2_with fail
  refine HX.out.mono ?_
  rintro e w' ⟨b, rfl, hr, hb⟩
  have HR := Lib.hid hr
  have HB2 := Lib.hid (below_step HB.out hb)
  clear hr hb
  go_wp2_with fail
  go_ret2
  refine ⟨_, rfl, ?_, HB2.out⟩
  rw [← HA.out]
  have hs := HR.out.S HB.out.size (by omega) (by omega)
  simp only [sz] at hs
  exact hs

-- NOT PRINTED: function 23 (codec_made)

end Go.Proofs.Ythhncoogmncdkaa.PA
-- written by the session's own program (wip/prt.py) over the kit's print: not print.sh's own text
namespace Go.Proofs.Ythhncoogmncdkaa.PA
open Go.RowKit Go.Proofs.YthhncoogmncdkaaW.PrintWords Go.Proofs.YthhncoogmncdkaaW.PrintLast Go.Proofs.YthhncoogmncdkaaW.PrintMore
attribute [local go_sem] max2_int min2_int max_two min_two max_three min_three max_four min_four   -- for this text's walks alone
set_option linter.unusedVariables false
set_option linter.unusedSimpArgs false

/-! ### codec_Row: function 14 -/
/-- the rows of a code: the unit matrix, the parity below -/
def codec_Row.M (k r : Nat) : List (List Int) := matrix_One.M k ++ (if r = 0 then [] else matrix_Cauchy.M k r)
def codec_Row.bad (a0 a1 : Int) : Prop := a0 < 1 ∨ a0 > 12 ∨ a1 < 0 ∨ a1 > 4
instance codec_Row.dec1 (a0 a1 : Int) : Decidable (codec_Row.bad a0 a1) := by unfold codec_Row.bad; infer_instance
def codec_Row.inv (a0 a1 : Int) : Prop := ∀ i, i < a1.toNat → ∀ j, j < a0.toNat → (gf_Inv.f (matrix_Cauchy.at_ a0 i j)).isSome = true
instance codec_Row.dec2 (a0 a1 : Int) : Decidable (codec_Row.inv a0 a1) := by unfold codec_Row.inv; infer_instance
def codec_Row.f (a0 a1 a2 : Int) : Option (List Int × Int) := if in64 a0 ∧ in64 a1 ∧ in64 a2 then (if codec_Row.bad a0 a1 then some ([], 2) else if codec_Row.inv a0 a1 then (if 0 ≤ a2 ∧ a2 < a0 + a1 then some (rw_ (codec_Row.M a0.toNat a1.toNat) a2.toNat, 0) else some ([], 2)) else none) else none
theorem codec_Row.M_len (k r : Nat) : (codec_Row.M k r).length = k + r := by
  unfold codec_Row.M matrix_One.M
  by_cases h : r = 0
  · subst h; simp
  · rw [if_neg h]; simp [matrix_Cauchy.M]
theorem codec_Row.M_one {k r i : Nat} (h : i < k) : rw_ (codec_Row.M k r) i = rw_ (matrix_One.M k) i := by
  have hl : (matrix_One.M k).length = k := by simp [matrix_One.M]
  unfold codec_Row.M rw_
  rw [List.getD_eq_getElem?_getD, List.getD_eq_getElem?_getD, List.getElem?_append_left (by omega)]
theorem codec_Row.M_two {k r i : Nat} (h : i < r) : rw_ (codec_Row.M k r) (k + i) = rw_ (matrix_Cauchy.M k r) i := by
  have hl : (matrix_One.M k).length = k := by simp [matrix_One.M]
  unfold codec_Row.M rw_
  rw [if_neg (by omega), List.getD_eq_getElem?_getD, List.getD_eq_getElem?_getD, List.getElem?_append_right (by omega), hl, Nat.add_sub_cancel_left]
theorem codec_Row.in64_nat {i : Nat} (h : i ≤ 1000) : in64 (i : Int) := by unfold in64; simp only [Lit.wf, Bool.and_eq_true, decide_eq_true_eq]; exact ⟨Int.le_trans (b := 0) (by decide) (by omega), Int.le_trans (b := 1000) (by omega) (by decide)⟩
theorem codec_Row.keys {k r n i : Nat} (hk : k ≤ 12) (hr : r ≤ 4) (hi : i ≤ 16) : ∃ l, keyOf Try.prog 50 (pk k r i) = some l := pk_key (codec_Row.in64_nat (by omega)) (codec_Row.in64_nat (by omega)) (codec_Row.in64_nat (by omega))
theorem codec_Row.keys_ne {k r i j : Nat} (h : i ≠ j) : pk k r i ≠ pk k r j := fun z => h (by have := pk_inj z; omega)
theorem codec_Row.bad1 (a0 a1 : Int) (h : codec_Row.bad a0 a1) (w : World) : Calls Try.prog 23 #[.int .i64 a0, .int .i64 a1] w fun e w' => e = .returned (.map none) ∧ w = w' := by
  unfold codec_Row.bad at h
  by_cases h1 : a0 < 1
  · have d1 : decide (a0 < 1) = true := decide_eq_true h1
    clear h
    go_enter Try.func23, Try.ntmps23
    go_wp2_with fail
    go_ret
    exact ⟨rfl, rfl⟩
  have d1 : decide (a0 < 1) = false := decide_eq_false h1
  by_cases h2 : a0 > 12
  · have d2 : decide (a0 > 12) = true := decide_eq_true h2
    clear h
    go_enter Try.func23, Try.ntmps23
    go_wp2_with fail
    go_ret
    exact ⟨rfl, rfl⟩
  have d2 : decide (a0 > 12) = false := decide_eq_false h2
  by_cases h3 : a1 < 0
  · have d3 : decide (a1 < 0) = true := decide_eq_true h3
    clear h
    go_enter Try.func23, Try.ntmps23
    go_wp2_with fail
    go_ret
    exact ⟨rfl, rfl⟩
  have d3 : decide (a1 < 0) = false := decide_eq_false h3
  have d4 : decide (a1 > 4) = true := decide_eq_true (by omega)
  clear h
  go_enter Try.func23, Try.ntmps23
  go_wp2_with fail
  go_ret
  exact ⟨rfl, rfl⟩
set_option maxHeartbeats 4000000 in
set_option maxRecDepth 100000 in
theorem codec_Row.made (k r : Nat) (hk0 : 1 ≤ k) (hk : k ≤ 12) (hr : r ≤ 4) (hi : codec_Row.inv k r) (w : World) : Calls Try.prog 23 #[.int .i64 k, .int .i64 r] w fun e w' => ∃ (g : Nat) (val : Nat → Value), e = .returned (.map (some g)) ∧
      MapIs w' g (k + r) (fun i => pk k r i) val ∧ (∀ i, i < k + r → Kd.R (Kd.int .u8) 5 w' w.heap.size (fun _ => True) (val i) (rw_ (codec_Row.M k r) i)) ∧ Below w.heap.size w w' := by
  have hmm := @run_makeMap Try.prog
  have h1 : ¬ (k : Int) < 1 := by omega
  have h2 : ¬ (k : Int) > 12 := by omega
  have h3 : ¬ (r : Int) < 0 := by omega
  have h4 : ¬ (r : Int) > 4 := by omega
  have d1 : decide ((k : Int) < 1) = false := decide_eq_false h1
  have d2 : decide ((k : Int) > 12) = false := decide_eq_false h2
  have d3 : decide ((r : Int) < 0) = false := decide_eq_false h3
  have d4 : decide ((r : Int) > 4) = false := decide_eq_false h4
  have ho : matrix_One.f (k : Int) = some (matrix_One.M k, 0) := by
    unfold matrix_One.f; rw [if_neg (by omega), if_neg (by omega), Int.toNat_natCast]
  have HO := Lib.hid ho
  have HK := Lib.hid hk
  have HR := Lib.hid hr
  have HI := Lib.hid hi
  have HK0 := Lib.hid hk0
  clear ho hi h1 h2 h3 h4 hk hr hk0
  go_enter Try.func23, Try.ntmps23
  go_wp2_with fail
  have HB := Lib.hid (below_alloc (Below.refl w.heap.size w) (.map #[] 0))
  have HMP := Lib.hid (MapIs.new w (fun i => pk k r i) (fun _ => undef))
  generalize w.alloc (.map #[] 0) = w1 at HB HMP ⊢
  have HGE := Lib.hid (Nat.le_refl w.heap.size)
  have HGL := Lib.hid HMP.out.lt
  generalize hgq : w.heap.size = g at HMP HGE HGL ⊢
  rw [← hgq] at HGE
  have HGQ := Lib.hid hgq
  clear hgq
  refine (matrix_One.calls (k : Int) (matrix_One.M k) 0 _ HO.out).mono ?_
  rintro e' w2 ⟨v1, rfl, ho, hb⟩
  have hkk := HK0.out
  obtain ⟨g1, cap1, b1, c1, rfl, -, hM⟩ := Mat.of_S (m := k) ho (by simp [matrix_One.M]) (by simp [matrix_One.M]; omega) hkk
  have hml : (matrix_One.M k).length = k := by simp [matrix_One.M]
  rw [hml]
  have HM := Lib.hid (hM.mono (S' := fun q => g < q ∧ w.heap.size ≤ q) (fun q hq => ⟨Nat.lt_of_lt_of_le HGL.out hq, Nat.le_trans HB.out.size hq⟩))
  have HML := Lib.hid hml
  replace HMP := Lib.hid (HMP.out.below hb)
  replace HB := Lib.hid (below_step HB.out hb)
  clear ho hb hM hkk hml HGL
  go_wp2_with fail
  go_loopg [8, 9, 36] k (fun gk s8 s9 s36 wx => ∃ i : Nat, i + gk = k ∧ s36 = .int .i64 i ∧ Hid (MapIs wx g i (fun i => pk k r i) (fun i => .slice (some ⟨b1 i, 0, none⟩) k (c1 i))) ∧ Hid (Mat wx (fun q => g < q ∧ w.heap.size ≤ q) g1 cap1 b1 c1 (matrix_One.M k) k) ∧ Hid (Below w.heap.size w wx))
  case atStart => exact ⟨0, by omega, rfl, Lib.hid (HMP.out.congr (fun i hi => absurd hi (by omega))), HM, HB⟩
  case round =>
    clear HMP HM HB
    obtain ⟨i, hig, rfl, HMP, HM, HB⟩ := hrel
    have hle : (i : Int) ≤ (k : Int) := by omega
    cases gk with
    | succ d =>
      have hlt : (i : Int) < (k : Int) := by omega
      have hx := HM.out.out (i := i) (by rw [HML.out]; omega)
      obtain ⟨o, hput, hnew⟩ := HMP.out.put (fun j hj => codec_Row.keys (n := 0) HK.out HR.out (by have := HK.out; omega)) (fun j hj => codec_Row.keys_ne (by omega))
      have HN := Lib.hid hnew
      have HM2 := Lib.hid (HM.out.keep (W' := ChangeMaps.setBlock wr g o) (fun q hq => put_other (by have := hq.1; omega) o HMP.out.lt))
      have HB2 := Lib.hid (put_below HB.out (Nat.le_of_eq HGQ.out) o HMP.out.lt)
      simp only [pk] at hput
      have hw : wrap64 ((i : Int) + 1) = ((i + 1 : Nat) : Int) := by have := HK.out; unfold wrap64; omega
      have HW := Lib.hid hw
      clear hnew hw HMP HM HB hle
      go_wp2_with fail
      go_roundg d
      case measure => omega
      case rel => exact ⟨i + 1, by omega, by rw [HW.out], HN, HM2, HB2⟩
    | zero =>
      obtain rfl : i = k := by omega
      clear hle hig
      by_cases hr0 : r = 0
      case pos =>
        subst hr0
        have d5 : decide (((0 : Nat) : Int) > 0) = false := by decide
        go_wp2_with fail
        go_ret
        refine ⟨g, _, rfl, HMP.out, fun q hq => ?_, HB.out⟩
        rw [codec_Row.M_one (by omega)]
        exact Kd.R_mono (HM.out.R (i := q) (by rw [HML.out]; omega) (HM.out.2.2.1 q (by rw [HML.out]; omega)).2.1.2) (fun _ _ => trivial)
      have d5 : decide ((r : Int) > 0) = true := decide_eq_true (by omega)
      have d6 : (0 : Int) < (r : Int) := by omega
      have hc : matrix_Cauchy.f (i : Int) (r : Int) = some (matrix_Cauchy.M i r, 0) := by
        have := HR.out; have := HK.out; have := HK0.out
        unfold matrix_Cauchy.f; rw [if_neg (by omega), if_neg (by omega), if_neg (by omega), if_neg (by omega), if_pos (by simpa [codec_Row.inv] using HI.out)]; simp
      have HC := Lib.hid hc
      have HR0 := Lib.hid hr0
      clear hc hr0
      go_wp2_with fail
      refine (matrix_Cauchy.calls (i : Int) (r : Int) (matrix_Cauchy.M i r) 0 _ HC.out).mono ?_
      rintro e' w3 ⟨v2, rfl, ho, hb⟩
      have hkk := HK0.out
      have hcl : (matrix_Cauchy.M i r).length = r := by simp [matrix_Cauchy.M]
      obtain ⟨g2, cap2, b2, c2, rfl, -, hM⟩ := Mat.of_S (m := i) ho (by simp [matrix_Cauchy.M]) (by have := HR0.out; omega) hkk
      rw [hcl]
      have HM2 := Lib.hid (hM.mono (S' := fun q => g < q ∧ w.heap.size ≤ q) (fun q hq => ⟨Nat.lt_of_lt_of_le HMP.out.lt hq, Nat.le_trans HB.out.size hq⟩))
      have HCL := Lib.hid hcl
      replace HMP := Lib.hid (HMP.out.below hb)
      replace HM := Lib.hid (HM.out.below hb)
      replace HB := Lib.hid (below_step HB.out hb)
      clear ho hb hM hkk hcl
      go_wp2_with fail
      go_loopg [12, 13, 58] r (fun gk s12 s13 s58 wx => ∃ j : Nat, j + gk = r ∧ s58 = .int .i64 j ∧ Hid (MapIs wx g (i + j) (fun q => pk i r q) (fun q => if q < i then .slice (some ⟨b1 q, 0, none⟩) i (c1 q) else .slice (some ⟨b2 (q - i), 0, none⟩) i (c2 (q - i)))) ∧ Hid (Mat wx (fun q => g < q ∧ w.heap.size ≤ q) g1 cap1 b1 c1 (matrix_One.M i) i) ∧ Hid (Mat wx (fun q => g < q ∧ w.heap.size ≤ q) g2 cap2 b2 c2 (matrix_Cauchy.M i r) i) ∧ Hid (Below w.heap.size w wx))
      case atStart => exact ⟨0, by omega, rfl, Lib.hid (HMP.out.congr (fun q hq => by rw [if_pos (by omega)])), HM, HM2, HB⟩
      case round =>
        clear HMP HM HM2 HB
        obtain ⟨j, hjg, rfl, HMP, HM, HM2, HB⟩ := hrel
        have hle : (j : Int) ≤ (r : Int) := by omega
        cases gk with
        | succ d =>
          have hlt : (j : Int) < (r : Int) := by omega
          have hx := HM2.out.out (i := j) (by rw [HCL.out]; omega)
          obtain ⟨o, hput, hnew⟩ := HMP.out.put (fun q hq => codec_Row.keys (n := 0) HK.out HR.out (by have := HK.out; have := HR.out; omega)) (fun q hq => codec_Row.keys_ne (by omega))
          have HN := Lib.hid hnew
          have HM3 := Lib.hid (HM.out.keep (W' := ChangeMaps.setBlock wr g o) (fun q hq => put_other (by have := hq.1; omega) o HMP.out.lt))
          have HM4 := Lib.hid (HM2.out.keep (W' := ChangeMaps.setBlock wr g o) (fun q hq => put_other (by have := hq.1; omega) o HMP.out.lt))
          have HB2 := Lib.hid (put_below HB.out (Nat.le_of_eq HGQ.out) o HMP.out.lt)
          simp only [pk] at hput
          rw [if_neg (by omega), show i + j - i = j by omega, show ((i + j : Nat) : Int) = (i : Int) + (j : Int) by omega] at hput
          have hw : wrap64 ((j : Int) + 1) = ((j + 1 : Nat) : Int) := by have := HR.out; unfold wrap64; omega
          have hw2 : wrap64 ((i : Int) + (j : Int)) = (i : Int) + (j : Int) := by have := HR.out; have := HK.out; unfold wrap64; omega
          have hb1 : (i : Int) ≤ 12 := by have := HK.out; omega
          have hb2 : (r : Int) ≤ 4 := by have := HR.out; omega
          have HW := Lib.hid hw
          clear hnew hw hw2 HMP HM HM2 HB hle
          go_wp2_with fail
          go_roundg d
          case measure => omega
          case rel => exact ⟨j + 1, by omega, by first | rw [HW.out] | (simp; done), HN, HM3, HM4, HB2⟩
        | zero =>
          obtain rfl : j = r := by omega
          go_wp2_with fail
          go_ret
          refine ⟨g, _, rfl, HMP.out, fun q hq => ?_, HB.out⟩
          by_cases hqi : q < i
          · rw [codec_Row.M_one hqi, if_pos hqi]
            exact Kd.R_mono (HM.out.R (i := q) (by rw [HML.out]; omega) (HM.out.2.2.1 q (by rw [HML.out]; omega)).2.1.2) (fun _ _ => trivial)
          · obtain ⟨p, rfl⟩ : ∃ p, q = i + p := ⟨q - i, by omega⟩
            rw [codec_Row.M_two (by omega), if_neg hqi, show i + p - i = p by omega]
            exact Kd.R_mono (HM2.out.R (i := p) (by rw [HCL.out]; omega) (HM2.out.2.2.1 p (by rw [HCL.out]; omega)).2.1.2) (fun _ _ => trivial)
theorem codec_Row.zero (w : World) : (zeroValue 23).run Try.prog w = .ok (.slice none 0 0) w := by kernel_rfl
theorem codec_Row.calls (a0 a1 a2 : Int) (r1 : List Int) (r2 : Int) (w : World) (h : codec_Row.f a0 a1 a2 = some (r1, r2)) :
    Calls Try.prog 14 #[.int .i64 a0, .int .i64 a1, .int .i64 a2] w fun e w' => ∃ v0_ : Value, e = .returned (.tuple #[v0_, .int .i64 r2]) ∧ Kd.R (Kd.int .u8) 5 w' w.heap.size (fun _ => True) v0_ r1 ∧ Below w.heap.size w w' := by
  unfold codec_Row.f at h
  by_cases h64 : in64 a0 ∧ in64 a1 ∧ in64 a2
  case neg => rw [if_neg h64] at h; cases h
  rw [if_pos h64] at h
  have hkey := pk_key h64.1 h64.2.1 h64.2.2
  by_cases hb : codec_Row.bad a0 a1
  · rw [if_pos hb] at h
    injection h with h; injection h with ha hc; subst ha hc
    have HBAD := Lib.hid hb
    have HL := Lib.hid (fun W : World => look_nil W (.slice none 0 0) (codec_Row.zero W) true hkey)
    clear hb hkey h64
    go_enter Try.func14, Try.ntmps14
    go_wp2_with fail
    refine (codec_Row.bad1 a0 a1 HBAD.out _).mono ?_
    rintro e' w1 ⟨rfl, rfl⟩
    have hl := HL.out w
    simp only [pk, if_true] at hl
    go_wp2_with fail
    go_ret2
    exact ⟨_, rfl, Kd.R_nil _ _ _ _ _, Below.refl _ _⟩
  rw [if_neg hb] at h
  by_cases hi : codec_Row.inv a0 a1
  case neg => rw [if_neg hi] at h; cases h
  rw [if_pos hi] at h
  unfold codec_Row.bad at hb
  obtain ⟨k, rfl⟩ := Int.eq_ofNat_of_zero_le (show 0 ≤ a0 by omega)
  obtain ⟨r, rfl⟩ := Int.eq_ofNat_of_zero_le (show 0 ≤ a1 by omega)
  simp only [Int.toNat_natCast] at h
  have hk0 : 1 ≤ k := by omega
  have hk : k ≤ 12 := by omega
  have hr : r ≤ 4 := by omega
  have HI := Lib.hid hi
  have HK0 := Lib.hid hk0
  have HK := Lib.hid hk
  have HR := Lib.hid hr
  have HKEY := Lib.hid hkey
  have H := Lib.hid h
  clear hb hi hkey h64 hk0 hk hr h
  go_enter Try.func14, Try.ntmps14
  go_wp2_with fail
  refine (codec_Row.made k r HK0.out HK.out HR.out HI.out _).mono ?_
  rintro e' w1 ⟨g, val, rfl, hmp, hrow, hb⟩
  have HB := Lib.hid hb
  rcases hmp.look (fun i hi => codec_Row.keys (n := 0) HK.out HR.out (by have := HK.out; have := HR.out; omega)) (.slice none 0 0) (codec_Row.zero w1) true HKEY.out with ⟨i, hi, hx, hl⟩ | ⟨hno, hl⟩
  · have e2 := pk_inj hx
    subst e2
    have h := H.out
    rw [if_pos ⟨by omega, by omega⟩, Int.toNat_natCast] at h
    injection h with h; injection h with ha hc; subst ha hc
    have HRW := Lib.hid (hrow i hi)
    simp only [pk, if_true] at hl
    clear hmp hrow hb hx H
    go_wp2_with fail
    go_ret2
    exact ⟨_, rfl, HRW.out, HB.out⟩
  · have h := H.out
    rw [if_neg (fun z => hno a2.toNat (by omega) (by rw [show ((a2.toNat : Nat) : Int) = a2 by omega]))] at h
    injection h with h; injection h with ha hc; subst ha hc
    simp only [pk, if_true] at hl
    clear hmp hrow hb hno H
    go_wp2_with fail
    go_ret2
    exact ⟨_, rfl, Kd.R_nil _ _ _ _ _, HB.out⟩

end Go.Proofs.Ythhncoogmncdkaa.PA
