import Derived.Test.YtmmbojeikppinaaPDx0
-- written by the session's own program (wip/prt.py) over the kit's print: not print.sh's own text
namespace Go.Proofs.Ytmmbojeikppinaa.PD
open Go.RowKit Go.Proofs.YtmmbojeikppinaaW.PrintWords Go.Proofs.YtmmbojeikppinaaW.PrintLast Go.Proofs.YtmmbojeikppinaaW.PrintMore
attribute [local go_sem] max2_int min2_int max_two min_two max_three min_three max_four min_four   -- for this text's walks alone
set_option linter.unusedVariables false
set_option linter.unusedSimpArgs false

/-! ### kernel_alike: function 42 -/
def kernel_alike.l0 : Nat → List (List Int) → List (List Int) → Int → Int → Option (Bool)
  | 0, _, _, _, _ => none
  | k + 1, x0, x5, x6, x7 => if x7 < x6 then (if 0 ≤ x7 then (if x7 < (x5.length : Int) then (if ((rd_L1 x5 x7).length : Int) > 65536 then (some false) else (if 0 < (x0.length : Int) then (if ((rd_L1 x5 x7).length : Int) = ((rd_L1 x0 0).length : Int) then (kernel_alike.l0 k x0 x5 x6 (wrap64 (x7 + 1))) else (some false)) else (none))) else (none)) else (none)) else (some true)
def kernel_alike.f (k : Nat) (l0 : List (List Int)) : Option (Bool) := kernel_alike.l0 k l0 l0 (l0.length : Int) 0
theorem kernel_alike.mono_l : ∀ k, (∀ y0 y1 y2 y3, LeO (kernel_alike.l0 k y0 y1 y2 y3) (kernel_alike.l0 (k + 1) y0 y1 y2 y3))
  | 0 => fun _ _ _ _ r h => by simp [kernel_alike.l0] at h
  | k + 1 => by
    have ih0 := kernel_alike.mono_l k
    · intro y0 y1 y2 y3
      unfold kernel_alike.l0
      repeat' first
      | (with_reducible exact ih0 _ _ _ _)
      | (with_reducible exact LeO.refl _)
      | (with_reducible exact LeO.none _)
      | (with_reducible refine LeO.ite ?_ ?_)
      | (with_reducible refine LeO.bind ?_ (fun _ => ?_))
      | exact ih0 _ _ _ _
      | exact LeO.none _
      | refine LeO.ite ?_ ?_
      | refine LeO.bind ?_ (fun _ => ?_)
theorem kernel_alike.mono : ∀ a0 k, LeO (kernel_alike.f k a0) (kernel_alike.f (k + 1) a0) := by
  intro a0 k
  have ih0 := kernel_alike.mono_l k
  unfold kernel_alike.f
  repeat' first
      | (with_reducible exact ih0 _ _ _ _)
      | (with_reducible exact LeO.refl _)
      | (with_reducible exact LeO.none _)
      | (with_reducible refine LeO.ite ?_ ?_)
      | (with_reducible refine LeO.bind ?_ (fun _ => ?_))
      | exact ih0 _ _ _ _
      | exact LeO.none _
      | refine LeO.ite ?_ ?_
      | refine LeO.bind ?_ (fun _ => ?_)
set_option maxHeartbeats 8000000 in
set_option maxRecDepth 100000 in
theorem kernel_alike.calls (k : Nat) (A0 : Option Addr) (c0 : Nat) (l0 : List (List Int)) (r : Bool) (w : World) (hr0 : Kd.C (Kd.slice 5 (Kd.int .u8)) w A0 l0.length l0) (hc0 : l0.length ≤ c0) (h : kernel_alike.f k l0 = some r) :
    Calls Try.prog 42 #[.slice A0 l0.length c0] w fun e w' => e = .returned (.bool r) ∧ Drawn0 w w' := by
  have HR0 := Aside0.mk hr0
  have HC0 := Aside0.mk hc0
  clear hr0 hc0
  have H : (kernel_alike.l0 k l0 l0 (l0.length : Int) 0) = some r := h
  clear h
  have H' := Aside0.mk H
  clear H
  go_enter Try.func42, Try.ntmps42
  go_wp2
  go_loopg [7] k (fun kq v7 w' => ∃ (x7_1 : Int), v7 = .int .i64 x7_1 ∧ Aside0 (kernel_alike.l0 kq l0 l0 (l0.length : Int) x7_1 = some r) ∧ Aside0 (kq ≤ k) ∧ Drawn0 w w')
  case atStart => exact ⟨(0), (by first | rfl | (simp; done) | (simp [*]; done)), H', ⟨Nat.le_refl _⟩, by repeat (first | exact Drawn0.refl _ | apply Drawn0.step)⟩
  case round =>
    clear H'
    obtain ⟨x7_1, rfl, HA, HK1, ⟨m1, rfl⟩⟩ := hrel
    cases gk with
    | zero => exact absurd HA.out (by simp [kernel_alike.l0])
    | succ k1 =>
      have H := HA.out
      clear HA
      simp only [kernel_alike.l0] at H
      by_cases c2 : x7_1 < (l0.length : Int)
      · rw [if_pos c2] at H
        have c2b0 : decide (x7_1 < (l0.length : Int)) = true := decide_eq_true c2
        clear c2
        by_cases c3 : 0 ≤ x7_1
        · rw [if_pos c3] at H
          have c3b0 : decide (0 ≤ x7_1) = true := decide_eq_true c3
          clear c3
          by_cases c4 : x7_1 < (l0.length : Int)
          · rw [if_pos c4] at H
            have c4b0 : decide (x7_1 < (l0.length : Int)) = true := decide_eq_true c4
            clear c4
            by_cases c5 : ((rd_L1 l0 x7_1).length : Int) > 65536
            · rw [if_pos c5] at H
              have c5b0 : decide (65536 < ((rd_L1 l0 x7_1).length : Int)) = true := decide_eq_true c5
              have c5b1 : decide (65536 < (rd_L1 l0 x7_1).length) = true := decide_eq_true (by omega)
              clear c5
              obtain rfl := Option.some.inj H
              have p101 : 0 ≤ (x7_1 : Int) := of_decide_eq_true (by first | (with_reducible assumption) | assumption)
              have q101 : x7_1 < (l0.length : Int) := of_decide_eq_true (by first | (with_reducible assumption) | assumption)
              obtain ⟨ad101, A101_0, c101_0, e101, hx101_0, hl101_0, hi101_0⟩ := at_L1 HR0.out x7_1 p101 q101
              cases e101
              have HR101_0 := Aside0.mk hi101_0
              have HC101_0 := Aside0.mk hl101_0
              clear hi101_0 hl101_0
              replace p101 := eq_true p101
              replace q101 := eq_true q101
              go_wp2
              go_ret
              exact ⟨by first | rfl | (simp; done) | (simp [*]; done), by repeat (first | exact Drawn0.refl _ | apply Drawn0.step)⟩
            · rw [if_neg c5] at H
              have c5b0 : decide (65536 < ((rd_L1 l0 x7_1).length : Int)) = false := decide_eq_false c5
              have c5b1 : decide (65536 < (rd_L1 l0 x7_1).length) = false := decide_eq_false (by omega)
              clear c5
              by_cases c6 : 0 < (l0.length : Int)
              · rw [if_pos c6] at H
                have c6b0 : decide (0 < (l0.length : Int)) = true := decide_eq_true c6
                have c6b1 : decide (0 < l0.length) = true := decide_eq_true (by omega)
                clear c6
                by_cases c7 : ((rd_L1 l0 x7_1).length : Int) = ((rd_L1 l0 0).length : Int)
                · rw [if_pos c7] at H
                  have c7b0 : (((rd_L1 l0 x7_1).length : Int) == ((rd_L1 l0 0).length : Int)) = true := beq_iff_eq.mpr c7
                  have c7b1 : (((rd_L1 l0 x7_1).length : Int) != ((rd_L1 l0 0).length : Int)) = false := bne_eq_false_iff_eq.mpr c7
                  have c7b2 : ((rd_L1 l0 x7_1).length == (rd_L1 l0 0).length) = true := by first | simpa using c7 | (simp at c7 ⊢; omega)
                  clear c7
                  have H' := Aside0.mk H
                  clear H
                  have p101 : 0 ≤ (x7_1 : Int) := of_decide_eq_true (by first | (with_reducible assumption) | assumption)
                  have q101 : x7_1 < (l0.length : Int) := of_decide_eq_true (by first | (with_reducible assumption) | assumption)
                  obtain ⟨ad101, A101_0, c101_0, e101, hx101_0, hl101_0, hi101_0⟩ := at_L1 HR0.out x7_1 p101 q101
                  cases e101
                  have HR101_0 := Aside0.mk hi101_0
                  have HC101_0 := Aside0.mk hl101_0
                  clear hi101_0 hl101_0
                  replace p101 := eq_true p101
                  replace q101 := eq_true q101
                  have p102 : 0 ≤ (0 : Int) := (by omega)
                  have q102 : 0 < (l0.length : Int) := of_decide_eq_true (by first | (with_reducible assumption) | assumption)
                  obtain ⟨ad102, A102_0, c102_0, e102, hx102_0, hl102_0, hi102_0⟩ := at_L1 HR0.out 0 p102 q102
                  obtain rfl : ad101 = ad102 := (by injection e102)
                  have qi102 : (0 < l0.length) = True := eq_true (by omega)
                  (try rw [show ((0 : Int)).toNat = 0 from rfl] at hx102_0)
                  (try rw [Addr.add_zero'] at hx102_0)
                  have HR102_0 := Aside0.mk hi102_0
                  have HC102_0 := Aside0.mk hl102_0
                  clear hi102_0 hl102_0
                  replace p102 := eq_true p102
                  replace q102 := eq_true q102
                  go_wp2
                  go_roundg k1
                  case measure => have := HK1.out; omega
                  case rel => exact ⟨(wrap64 (x7_1 + 1)), (by first | rfl | (simp; done) | (simp [*]; done)), H', ⟨by have := HK1.out; omega⟩, by repeat (first | exact Drawn0.refl _ | apply Drawn0.step)⟩
                · rw [if_neg c7] at H
                  have c7b0 : (((rd_L1 l0 x7_1).length : Int) == ((rd_L1 l0 0).length : Int)) = false := beq_eq_false_iff_ne.mpr c7
                  have c7b1 : (((rd_L1 l0 x7_1).length : Int) != ((rd_L1 l0 0).length : Int)) = true := bne_iff_ne.mpr c7
                  have c7b2 : ((rd_L1 l0 x7_1).length == (rd_L1 l0 0).length) = false := by first | simpa using c7 | (simp at c7 ⊢; omega)
                  obtain rfl := Option.some.inj H
                  have p101 : 0 ≤ (x7_1 : Int) := of_decide_eq_true (by first | (with_reducible assumption) | assumption)
                  have q101 : x7_1 < (l0.length : Int) := of_decide_eq_true (by first | (with_reducible assumption) | assumption)
                  obtain ⟨ad101, A101_0, c101_0, e101, hx101_0, hl101_0, hi101_0⟩ := at_L1 HR0.out x7_1 p101 q101
                  cases e101
                  have HR101_0 := Aside0.mk hi101_0
                  have HC101_0 := Aside0.mk hl101_0
                  clear hi101_0 hl101_0
                  replace p101 := eq_true p101
                  replace q101 := eq_true q101
                  have p102 : 0 ≤ (0 : Int) := (by omega)
                  have q102 : 0 < (l0.length : Int) := of_decide_eq_true (by first | (with_reducible assumption) | assumption)
                  obtain ⟨ad102, A102_0, c102_0, e102, hx102_0, hl102_0, hi102_0⟩ := at_L1 HR0.out 0 p102 q102
                  obtain rfl : ad101 = ad102 := (by injection e102)
                  have qi102 : (0 < l0.length) = True := eq_true (by omega)
                  (try rw [show ((0 : Int)).toNat = 0 from rfl] at hx102_0)
                  (try rw [Addr.add_zero'] at hx102_0)
                  have HR102_0 := Aside0.mk hi102_0
                  have HC102_0 := Aside0.mk hl102_0
                  clear hi102_0 hl102_0
                  replace p102 := eq_true p102
                  replace q102 := eq_true q102
                  go_wp2
                  go_ret
                  exact ⟨by first | rfl | (simp; done) | (simp [*]; done), by repeat (first | exact Drawn0.refl _ | apply Drawn0.step)⟩
              · rw [if_neg c6] at H
                exact absurd H (by simp)
          · rw [if_neg c4] at H
            exact absurd H (by simp)
        · rw [if_neg c3] at H
          exact absurd H (by simp)
      · rw [if_neg c2] at H
        have c2b0 : decide (x7_1 < (l0.length : Int)) = false := decide_eq_false c2
        clear c2
        obtain rfl := Option.some.inj H
        go_wp2
        go_ret
        exact ⟨by first | rfl | (simp; done) | (simp [*]; done), by repeat (first | exact Drawn0.refl _ | apply Drawn0.step)⟩

/-! ### gf_twice: function 59 -/
def gf_twice.f (a0 : Int) : Option (Int) := some (Go.bits .xor .u8 ((a0 * 2) % 256) (Go.bits .and .u8 29 ((-(a0 / 128)) % 256)))
set_option maxHeartbeats 8000000 in
set_option maxRecDepth 100000 in
theorem gf_twice.calls (a0 : Int) (r : Int) (w : World) (h : gf_twice.f a0 = some r) :
    Calls Try.prog 59 #[.int .u8 a0] w fun e w' => e = .returned (.int .u8 r) ∧ Drawn0 w w' := by
  have H : (some (Go.bits .xor .u8 ((a0 * 2) % 256) (Go.bits .and .u8 29 ((-(a0 / 128)) % 256)))) = some r := h
  clear h
  obtain rfl := Option.some.inj H
  go_enter Try.func59, Try.ntmps59
  go_wp2
  go_ret
  exact ⟨by first | rfl | (simp; done) | (simp [*]; done), by repeat (first | exact Drawn0.refl _ | apply Drawn0.step)⟩

/-! ### gf_Mul: function 51 -/
def gf_Mul.l0 : Nat → Int → Int → Int → Option (Int)
  | 0, _, _, _ => none
  | k + 1, x0, x1, x5 => if x1 = 0 then (some x5) else ((gf_twice.f x0).bind fun t103 => (gf_Mul.l0 k t103 (x1 / 2) (Go.bits .xor .u8 x5 (Go.bits .and .u8 x0 ((-(Go.bits .and .u8 x1 1)) % 256)))))
def gf_Mul.f (k : Nat) (a0 : Int) (a1 : Int) : Option (Int) := gf_Mul.l0 k a0 a1 0
theorem gf_Mul.mono_l : ∀ k, (∀ y0 y1 y2, LeO (gf_Mul.l0 k y0 y1 y2) (gf_Mul.l0 (k + 1) y0 y1 y2))
  | 0 => fun _ _ _ r h => by simp [gf_Mul.l0] at h
  | k + 1 => by
    have ih0 := gf_Mul.mono_l k
    · intro y0 y1 y2
      unfold gf_Mul.l0
      repeat' first
      | (with_reducible exact ih0 _ _ _)
      | (with_reducible exact LeO.refl _)
      | (with_reducible exact LeO.none _)
      | (with_reducible refine LeO.ite ?_ ?_)
      | (with_reducible refine LeO.bind ?_ (fun _ => ?_))
      | exact ih0 _ _ _
      | exact LeO.none _
      | refine LeO.ite ?_ ?_
      | refine LeO.bind ?_ (fun _ => ?_)
theorem gf_Mul.mono : ∀ a0 a1 k, LeO (gf_Mul.f k a0 a1) (gf_Mul.f (k + 1) a0 a1) := by
  intro a0 a1 k
  have ih0 := gf_Mul.mono_l k
  unfold gf_Mul.f
  repeat' first
      | (with_reducible exact ih0 _ _ _)
      | (with_reducible exact LeO.refl _)
      | (with_reducible exact LeO.none _)
      | (with_reducible refine LeO.ite ?_ ?_)
      | (with_reducible refine LeO.bind ?_ (fun _ => ?_))
      | exact ih0 _ _ _
      | exact LeO.none _
      | refine LeO.ite ?_ ?_
      | refine LeO.bind ?_ (fun _ => ?_)
set_option maxHeartbeats 8000000 in
set_option maxRecDepth 100000 in
theorem gf_Mul.calls (k : Nat) (a0 : Int) (a1 : Int) (r : Int) (w : World) (h : gf_Mul.f k a0 a1 = some r) :
    Calls Try.prog 51 #[.int .u8 a0, .int .u8 a1] w fun e w' => e = .returned (.int .u8 r) ∧ Drawn0 w w' := by
  have H : (gf_Mul.l0 k a0 a1 0) = some r := h
  clear h
  have H' := Aside0.mk H
  clear H
  go_enter Try.func51, Try.ntmps51
  go_wp2
  go_loopg [0, 1, 5] k (fun kq v0 v1 v5 w' => ∃ (x0_1 : Int) (x1_1 : Int) (x5_1 : Int), v0 = .int .u8 x0_1 ∧ v1 = .int .u8 x1_1 ∧ v5 = .int .u8 x5_1 ∧ Aside0 (gf_Mul.l0 kq x0_1 x1_1 x5_1 = some r) ∧ Aside0 (kq ≤ k) ∧ Drawn0 w w')
  case atStart => exact ⟨(a0), (a1), (0), (by first | rfl | (simp; done) | (simp [*]; done)), (by first | rfl | (simp; done) | (simp [*]; done)), (by first | rfl | (simp; done) | (simp [*]; done)), H', ⟨Nat.le_refl _⟩, by repeat (first | exact Drawn0.refl _ | apply Drawn0.step)⟩
  case round =>
    clear H'
    try clear p2
    obtain ⟨x0_1, x1_1, x5_1, rfl, rfl, rfl, HA, HK1, ⟨m1, rfl⟩⟩ := hrel
    cases gk with
    | zero => exact absurd HA.out (by simp [gf_Mul.l0])
    | succ k1 =>
      have H := HA.out
      clear HA
      simp only [gf_Mul.l0] at H
      by_cases c3 : x1_1 = 0
      · rw [if_pos c3] at H
        have c3b0 : (x1_1 == 0) = true := beq_iff_eq.mpr c3
        have c3b1 : (x1_1 != 0) = false := bne_eq_false_iff_eq.mpr c3
        clear c3
        obtain rfl := Option.some.inj H
        go_wp2
        go_ret
        exact ⟨by first | rfl | (simp; done) | (simp [*]; done), by repeat (first | exact Drawn0.refl _ | apply Drawn0.step)⟩
      · rw [if_neg c3] at H
        have c3b0 : (x1_1 == 0) = false := beq_eq_false_iff_ne.mpr c3
        have c3b1 : (x1_1 != 0) = true := bne_iff_ne.mpr c3
        replace H := Option.bind_eq_some_iff.mp H
        obtain ⟨t103, A40, H⟩ := H
        replace H : (gf_Mul.l0 k1 t103 (x1_1 / 2) (Go.bits .xor .u8 x5_1 (Go.bits .and .u8 x0_1 ((-(Go.bits .and .u8 x1_1 1)) % 256)))) = some r := H
        have A4 := Aside0.mk A40
        clear A40
        have H' := Aside0.mk H
        clear H
        go_wp2_with (first | ((with_reducible refine gate_callee (f := 59) rfl ?_); refine goesL_ (some 18) rfl rfl Try.func59 (by kernel_rfl) rfl #[.int .u8 x0_1] rfl (by (try simp only [List.map_toArray, List.map_cons, List.map_nil]); first | done | rfl | (simp only [List.length_drop, List.length_take]; rfl)) ?_; (with_reducible refine (gf_twice.calls x0_1 t103 _ A4.out).mono ?_); rintro e w' ⟨rfl, ⟨nd, rfl⟩⟩; refine ⟨_, rfl, ?_⟩) | (go_at_call 59; (with_reducible refine (gf_twice.calls x0_1 t103 _ A4.out).mono ?_); rintro e w' ⟨rfl, ⟨nd, rfl⟩⟩))
        go_roundg k1
        case measure => have := HK1.out; omega
        case rel => exact ⟨(t103), (x1_1 / 2), (Go.bits .xor .u8 x5_1 (Go.bits .and .u8 x0_1 ((-(Go.bits .and .u8 x1_1 1)) % 256))), (by first | rfl | (simp; done) | (simp [*]; done)), (by first | rfl | (simp; done) | (simp [*]; done)), (by first | rfl | (simp; done) | (simp [*]; done)), H', ⟨by have := HK1.out; omega⟩, by repeat (first | exact Drawn0.refl _ | apply Drawn0.step)⟩

/-! ### gf_Add: function 52 -/
def gf_Add.f (a0 : Int) (a1 : Int) : Option (Int) := some (Go.bits .xor .u8 a0 a1)
set_option maxHeartbeats 8000000 in
set_option maxRecDepth 100000 in
theorem gf_Add.calls (a0 : Int) (a1 : Int) (r : Int) (w : World) (h : gf_Add.f a0 a1 = some r) :
    Calls Try.prog 52 #[.int .u8 a0, .int .u8 a1] w fun e w' => e = .returned (.int .u8 r) ∧ Drawn0 w w' := by
  have H : (some (Go.bits .xor .u8 a0 a1)) = some r := h
  clear h
  obtain rfl := Option.some.inj H
  go_enter Try.func52, Try.ntmps52
  go_wp2
  go_ret
  exact ⟨by first | rfl | (simp; done) | (simp [*]; done), by repeat (first | exact Drawn0.refl _ | apply Drawn0.step)⟩

end Go.Proofs.Ytmmbojeikppinaa.PD
-- written by the session's own program (wip/prt.py) over the kit's print: not print.sh's own text
namespace Go.Proofs.Ytmmbojeikppinaa.PD
open Go.RowKit Go.Proofs.YtmmbojeikppinaaW.PrintWords Go.Proofs.YtmmbojeikppinaaW.PrintLast Go.Proofs.YtmmbojeikppinaaW.PrintMore
attribute [local go_sem] max2_int min2_int max_two min_two max_three min_three max_four min_four   -- for this text's walks alone
set_option linter.unusedVariables false
set_option linter.unusedSimpArgs false

/-! ### kernel_add: function 43 -/
def kernel_add.tab (k : Nat) (c : Int) : Nat → Option (List Int)
  | 0 => some []
  | n + 1 => (kernel_add.tab k c n).bind fun t => (gf_Mul.f k c n).bind fun m => some (t ++ [m])
def kernel_add.f (k : Nat) (l0 : List Int) (c : Int) (l2 : List Int) : Option (List Int) := (kernel_add.tab k c 256).bind fun T => if l0.length ≤ l2.length ∧ ∀ x ∈ l2, 0 ≤ x ∧ x < 256 then some (List.zipWith (fun x y => Go.bits .xor .u8 x (rd T y)) l0 l2) else none
theorem kernel_add.tab_mono (c : Int) : ∀ n k, LeO (kernel_add.tab k c n) (kernel_add.tab (k + 1) c n)
  | 0, _ => LeO.refl _
  | n + 1, k => LeO.bind (kernel_add.tab_mono c n k) (fun _ => LeO.bind (gf_Mul.mono _ _ _) (fun _ => LeO.refl _))
theorem kernel_add.mono : ∀ a0 a1 a2 k, LeO (kernel_add.f k a0 a1 a2) (kernel_add.f (k + 1) a0 a1 a2) := fun _ a1 _ k => LeO.bind (kernel_add.tab_mono a1 256 k) (fun _ => LeO.refl _)
theorem kernel_add.tab_some {k : Nat} {c : Int} : ∀ {n : Nat} {t : List Int}, kernel_add.tab k c n = some t → t.length = n ∧ ∀ i : Nat, i < n → gf_Mul.f k c i = some (rd t i)
  | 0, t, h => by
    injection h with h; subst h
    exact ⟨rfl, fun i hi => by omega⟩
  | n + 1, t, h => by
    obtain ⟨t', h1, h⟩ := Option.bind_eq_some_iff.mp h
    obtain ⟨m, h2, h⟩ := Option.bind_eq_some_iff.mp h
    injection h with h; subst h
    obtain ⟨hl, hi⟩ := kernel_add.tab_some h1
    refine ⟨by simp [hl], fun i hlt => ?_⟩
    by_cases e : i = n
    · subst e
      rw [h2]; congr 1
      unfold rd; simp [List.getD, ← hl]
    · rw [hi i (by omega)]; congr 1
      unfold rd; simp only [Int.toNat_natCast, List.getD_eq_getElem?_getD]
      rw [List.getElem?_append_left (by omega)]
def kernel_add.tc (T : List Int) : Nat → Array Value
  | 0 => Array.replicate 256 (.int .u8 0)
  | n + 1 => (kernel_add.tc T n).setIfInBounds n (.int .u8 (rd T n))
theorem kernel_add.tc_size (T : List Int) (n : Nat) : (kernel_add.tc T n).size = 256 := by induction n with | zero => simp [kernel_add.tc] | succ n ih => simp [kernel_add.tc, ih]
theorem kernel_add.tc_at (T : List Int) (n i : Nat) (h : i < 256) : (kernel_add.tc T n)[i]? = some (.int .u8 (if i < n then rd T i else 0)) := by
  induction n with
  | zero => simp [kernel_add.tc, h]
  | succ n ih =>
    by_cases e : n = i
    · subst e; simp [kernel_add.tc, kernel_add.tc_size, h]
    · rw [kernel_add.tc, Array.getElem?_setIfInBounds_ne (by exact e), ih]
      congr 2
      by_cases h2 : i < n
      · rw [if_pos h2, if_pos (by omega)]
      · rw [if_neg h2, if_neg (by omega)]
def kernel_add.mid (T l0 l2 : List Int) (n : Nat) : List Int := (List.zipWith (fun x y => Go.bits .xor .u8 x (rd T y)) l0 l2).take n ++ l0.drop n
theorem kernel_add.mid_len {T l0 l2 : List Int} (h : l0.length ≤ l2.length) {n : Nat} (hn : n ≤ l0.length) : (kernel_add.mid T l0 l2 n).length = l0.length := by
  unfold kernel_add.mid; simp; omega
theorem kernel_add.mid_at {T l0 l2 : List Int} (h : l0.length ≤ l2.length) {n : Nat} (hn : n < l0.length) : rd (kernel_add.mid T l0 l2 n) n = rd l0 n := by
  have hz : (List.take n (List.zipWith (fun x y => Go.bits .xor .u8 x (rd T y)) l0 l2)).length = n := by simp; omega
  unfold kernel_add.mid
  generalize List.take n (List.zipWith (fun x y => Go.bits .xor .u8 x (rd T y)) l0 l2) = z at hz ⊢
  unfold rd; simp only [Int.toNat_natCast, List.getD_eq_getElem?_getD]
  rw [List.getElem?_append_right (by omega), hz]; simp
theorem kernel_add.mid_set {T l0 l2 : List Int} (h : l0.length ≤ l2.length) {n : Nat} (hn : n < l0.length) : (kernel_add.mid T l0 l2 n).set n (Go.bits .xor .u8 (rd l0 n) (rd T (rd l2 n))) = kernel_add.mid T l0 l2 (n + 1) := by
  unfold kernel_add.mid
  have hz : (List.zipWith (fun x y => Go.bits .xor .u8 x (rd T y)) l0 l2).length = l0.length := by simp; omega
  have ht : (List.take n (List.zipWith (fun x y => Go.bits .xor .u8 x (rd T y)) l0 l2)).length = n := by rw [List.length_take, hz]; omega
  rw [List.set_append_right _ _ (by omega), ht, Nat.sub_self, List.drop_eq_getElem_cons hn, List.set_cons_zero, List.take_succ_eq_append_getElem (by omega), List.append_assoc]
  congr 2
  rw [List.getElem_zipWith]
  have e1 : rd l0 n = l0[n] := by simp [rd, hn]
  have e2 : rd l2 n = l2[n]'(by omega) := by simp [rd, show n < l2.length by omega]
  rw [e1, e2]
theorem kernel_add.mid_end {T l0 l2 : List Int} (h : l0.length ≤ l2.length) : kernel_add.mid T l0 l2 l0.length = List.zipWith (fun x y => Go.bits .xor .u8 x (rd T y)) l0 l2 := by
  unfold kernel_add.mid
  rw [List.drop_length, List.append_nil, List.take_of_length_le]; simp; omega
theorem kernel_add.zero (w : World) : (zeroValue 73).run Try.prog w = .ok (.agg (Array.replicate 256 (.int .u8 0))) w := (zero_of_info (v := .agg (Array.replicate 256 (.int .u8 0))) (n := 256) (by kernel_rfl)).1 w
theorem kernel_add.gfAdd (x y : Int) (w : World) : Calls Try.prog 52 #[.int .u8 x, .int .u8 y] w fun e w' => e = .returned (.int .u8 (Go.bits .xor .u8 x y)) ∧ w' = w := by
  go_enter Try.func52, Try.ntmps52
  go_wp2
  go_ret
  exact ⟨rfl, rfl⟩
set_option maxHeartbeats 8000000 in
set_option maxRecDepth 100000 in
theorem kernel_add.calls (k : Nat) (P0_ : Nat → Prop) (u9000_ : Value) (l0 : List Int) (a1 : Int) (A2 : Option Addr) (c2 : Nat) (l2 : List Int) (r : List Int) (w0 w : World) (hB : Below w0.heap.size w0 w) (ho0 : Kd.R (Kd.int .u8) 5 w w0.heap.size P0_ u9000_ l0) (hr2 : ∀ W_, Kept w W_ (fun k_ => P0_ k_) → Kd.C (Kd.int .u8) W_ A2 l2.length l2) (hc2 : l2.length ≤ c2) (h : kernel_add.f k l0 a1 l2 = some r) :
    Calls Try.prog 43 #[u9000_, .int .u8 a1, .slice A2 l2.length c2] w fun e w' => e = .returned (.tuple #[]) ∧ Kd.R (Kd.int .u8) 5 w' w0.heap.size (fun k_ => (P0_ k_ ∨ w.heap.size ≤ k_)) u9000_ r ∧ Below w0.heap.size w0 w' ∧ Kept w w' (fun k_ => P0_ k_) := by
  unfold kernel_add.f at h
  obtain ⟨T, hT, h⟩ := Option.bind_eq_some_iff.mp h
  by_cases hl : l0.length ≤ l2.length ∧ ∀ x ∈ l2, 0 ≤ x ∧ x < 256
  case neg => rw [if_neg hl] at h; cases h
  rw [if_pos hl] at h
  injection h with h
  subst h
  have HT := Lib.hid (kernel_add.tab_some hT)
  have HLEN := Lib.hid hl.1
  have HBY := Lib.hid hl.2
  obtain ⟨A0, c0, rfl⟩ := Kd.R_slice ho0
  have HO := Lib.hid ho0
  have HR2 := Lib.hid hr2
  have HB0 := Lib.hid hB
  have hz := kernel_add.zero
  have hfin := (Kd.R_reads' ho0).2.2.2.1
  clear h hl hT ho0 hr2 hB hc2
  go_enter Try.func43, Try.ntmps43
  go_wp2
  clear hz
  go_loopg [9] 256 (fun g s9 wx => ∃ n : Nat, n + g = 256 ∧ s9 = .int .i64 n ∧ Aside0 (wx.heap[w.heap.size]? = some (.cells (kernel_add.tc T n) 73 (0, 0))) ∧ Aside0 (Below w.heap.size w wx))
  case atStart => exact ⟨0, by omega, rfl, ⟨blk_new w _⟩, ⟨below_alloc (Below.refl _ _) _⟩⟩
  case round =>
    obtain ⟨n, hng, rfl, HX, HW⟩ := hrel
    cases gk with
    | succ g =>
      have hn : (n : Int) < 256 := by omega
      have HM := Lib.hid (HT.out.2 n (by omega))
      go_wp2_with fail
      ((with_reducible refine (gf_Mul.calls k a1 (n : Int) (rd T n) _ HM.out).mono ?_); rintro e w' ⟨rfl, ⟨nd, rfl⟩⟩)
      have hc1 : wr.cell? ⟨w.heap.size, n, none⟩ = some (.int .u8 (if n < n then rd T n else 0)) := (blk_cell HX.out n).trans (kernel_add.tc_at T n n (by omega))
      have hf1 := blk_frozen HX.out n
      go_wp2_with fail
      go_roundg g
      case measure => omega
      case rel => exact ⟨n + 1, by omega, by go_num, ⟨blk_set (blk_drewN HX.out nd) n _⟩, ⟨below_set (pw_below_drewN HW.out nd) (Nat.le_refl _)⟩⟩
    | zero =>
      obtain rfl : n = 256 := by omega
      have HO1 := Lib.hid (Kd.R_below HO.out HW.out)
      have HB1 := Lib.hid (below_then HB0.out HB0.out.size HW.out)
      have HK1 := Lib.hid (Kept.of_below HW.out (fun k_ => P0_ k_))
      clear HO HB0 HW
      go_wp2_with fail
      go_loopg [21] l0.length (fun g s21 wx => ∃ n : Nat, n + g = l0.length ∧ s21 = .int .i64 n ∧ Aside0 (wx.heap[w.heap.size]? = some (.cells (kernel_add.tc T 256) 73 (0, 0))) ∧ Aside0 (Kd.R (Kd.int .u8) 5 wx w0.heap.size P0_ (.slice A0 l0.length c0) (kernel_add.mid T l0 l2 n)) ∧ Aside0 (Below w0.heap.size w0 wx) ∧ Aside0 (Kept w wx (fun k_ => P0_ k_)))
      case atStart => exact ⟨0, by omega, rfl, HX, ⟨by unfold kernel_add.mid; simpa using HO1.out⟩, ⟨HB1.out⟩, ⟨HK1.out⟩⟩
      case round =>
        clear HX HO1 HB1 HK1
        rename_i wz
        obtain ⟨n, hng, rfl, HX, HO, HB, HK⟩ := hrel
        cases gk with
        | succ g =>
          have hn : (n : Int) < (l0.length : Int) := by omega
          have hn2 : (n : Int) < (l2.length : Int) := by have := HLEN.out; omega
          have hbn := HBY.out (rd l2 n) (by unfold rd; simp only [Int.toNat_natCast, List.getD_eq_getElem?_getD]; rw [List.getElem?_eq_getElem (by omega)]; exact List.getElem_mem _)
          obtain ⟨hb0, hb1⟩ := hbn
          obtain ⟨ga, ca, ea, hga, hgl, cells, hgc⟩ := Kd.R_form HO.out (by rw [kernel_add.mid_len HLEN.out (by omega)]; omega)
          (injection ea with ea1 ea2 ea3)
          subst ea1 ea3
          have hne : ga ≠ w.heap.size := fun e => by
            subst e; rw [HX.out] at hgc; injection hgc with hgc; injection hgc with _ hgc; exact absurd hgc (by decide)
          obtain ⟨hxa, hfa⟩ := Kd.R_celln 0 HO.out (n : Int) (by omega) (by omega)
          obtain ⟨ad, rfl, hxb⟩ := Kd.at_int (Kd.C_kept_now HR2.out HK.out) (n : Int) (by omega) hn2
          have hxt : wr.cell? ⟨w.heap.size, (rd l2 n).toNat, none⟩ = some (.int .u8 (rd T (rd l2 n))) := by
            rw [blk_cell HX.out, kernel_add.tc_at T 256 _ (by omega), if_pos (by omega), Int.toNat_of_nonneg hb0]
          have ema : rdOf 0 (kernel_add.mid T l0 l2 n) (n : Int) = rd l0 n := kernel_add.mid_at HLEN.out (by omega)
          rw [ema] at hxa
          have HP := Kd.R_putg HO.out (n : Int) (Go.bits .xor .u8 (rd l0 n) (rd T (rd l2 n)))
          simp only [Int.toNat_natCast] at HP hxa hfa hxb
          rw [kernel_add.mid_set HLEN.out (by omega)] at HP
          have HP2 := Lib.hid HP
          clear ema hgc HP ea2
          replace hne := Lib.hid hne
          go_wp2_with fail
          go_still_tail 14, (by kernel_rfl)
          still_call (kernel_add.gfAdd _ _ _)
          repeat still_step
          refine wpStill_nil ?_
          change wpList _ _ _ _ _ wr.drew
          have hxa2 : (wr.drew).cell? ⟨ga, n, none⟩ = some (.int .u8 (rd l0 ↑n)) := hxa
          have hfa2 : (wr.drew).frozen? ⟨ga, n, none⟩ = false := hfa
          clear hxa hfa hxb hxt
          go_wp2_with fail
          go_roundg g
          case measure => omega
          case rel => exact ⟨n + 1, by omega, by go_num, ⟨blk_far HX.out (p := ⟨ga, n, none⟩) (fun e => hne.out e.symm) _⟩, ⟨Kd.R_drew HP2.out.1⟩, ⟨below_drew1 (below_set HB.out hga)⟩, ⟨Kept.drew (Kept.setCell HK.out (.inl (HO.out.1 ga rfl)) _)⟩⟩
        | zero =>
          obtain rfl : n = l0.length := by omega
          go_wp2_with fail
          go_end0
          exact ⟨rfl, by rw [← kernel_add.mid_end HLEN.out]; exact Kd.R_mono HO.out (fun _ h => .inl h), HB.out, HK.out⟩

end Go.Proofs.Ytmmbojeikppinaa.PD
