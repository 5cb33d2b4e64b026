-- written by the session's own program (wip/prt.py) over the kit's print: not print.sh's own text
import Derived.Test.YtkmcjmhnoccedaaPCx0
import Derived.Test.YtkmcjmhnoccedaaPCx1
import Derived.Test.YtkmcjmhnoccedaaPCx4
namespace Go.Proofs.Ytkmcjmhnoccedaa.PC
open Go.RowKit Go.Proofs.YtkmcjmhnoccedaaW.PrintWords Go.Proofs.YtkmcjmhnoccedaaW.PrintLast Go.Proofs.YtkmcjmhnoccedaaW.PrintMore
attribute [local go_sem] max2_int min2_int max_two min_two max_three min_three max_four min_four   -- for this text's walks alone
set_option linter.unusedVariables false
set_option linter.unusedSimpArgs false

/-! ### vector_Unlike: function 15 -/
def vector_Unlike.f (k : Nat) (a0_0 : Int) (a0_1 : Int) (a0_2 : Int) (a0_3 : Int) (l1 : List Int) (l2 : List Int) : Option (List Int × Int) := (vector_Check.f k a0_0 a0_1 a0_2 a0_3 l1).bind fun e1 => (if e1 = 0 then ((vector_Check.f k a0_0 a0_1 a0_2 a0_3 l2).bind fun e2 => (if e2 = 0 then (if l1.length ≤ l2.length then ((hacc vector_Unlike_1.f ([] : List Int) l1 l2 l1.length).bind fun r => some (r, 0)) else none) else (some (([] : List Int), e2)))) else (some (([] : List Int), e1)))
theorem vector_Unlike.mono : ∀ a0 a1 a2 a3 a4 a5 k, LeO (vector_Unlike.f k a0 a1 a2 a3 a4 a5) (vector_Unlike.f (k + 1) a0 a1 a2 a3 a4 a5) := by
  intro a0 a1 a2 a3 a4 a5 k
  exact LeO.bind (vector_Check.mono _ _ _ _ _ _) (fun _ => LeO.ite (LeO.bind (vector_Check.mono _ _ _ _ _ _) (fun _ => LeO.refl _)) (LeO.refl _))
set_option maxHeartbeats 2000000 in
set_option maxRecDepth 100000 in
theorem vector_Unlike.both_ (k : Nat) (a0_0 : Int) (a0_1 : Int) (a0_2 : Int) (a0_3 : Int) (A1 : Option Addr) (c1 : Nat) (l1 : List Int) (A2 : Option Addr) (c2 : Nat) (l2 : List Int) (r1 : List Int) (r2 : Int) (w : World) (hr1 : Kd.C (Kd.int .i64) w A1 l1.length l1) (hc1 : l1.length ≤ c1) (hr2 : Kd.C (Kd.int .i64) w A2 l2.length l2) (hc2 : l2.length ≤ c2) (h : vector_Unlike.f k a0_0 a0_1 a0_2 a0_3 l1 l2 = some (r1, r2)) :
    Calls Try.prog 32 #[.agg #[.int .i64 a0_0, .int .i64 a0_1, .int .i64 a0_2, .int .i64 a0_3], .slice A1 l1.length c1, .slice A2 l2.length c2, .slice none 0 0, .func (.func 36) #[] #[]] w fun e w' => ∃ v0_ : Value, e = .returned (.tuple #[v0_, .int .i64 r2]) ∧ Kd.R (Kd.int .i64) 3 w' w.heap.size (fun _ => True) v0_ r1 ∧ Below w.heap.size w w' := by
  have hup := Try.underlying24
  have HR1 := Aside0.mk hr1
  have HR2 := Aside0.mk hr2
  clear hr1 hr2
  unfold vector_Unlike.f at h
  obtain ⟨e1, he1, h⟩ := Option.bind_eq_some_iff.mp h
  have H1 := Aside0.mk he1
  clear he1
  by_cases z1 : e1 = 0
  · rw [if_pos z1] at h
    subst z1
    obtain ⟨e2, he2, h⟩ := Option.bind_eq_some_iff.mp h
    have H2 := Aside0.mk he2
    clear he2
    by_cases z2 : e2 = 0
    · rw [if_pos z2] at h
      subst z2
      split at h
      · rename_i hll
        obtain ⟨r, hr, h⟩ := Option.bind_eq_some_iff.mp h
        injection h with h
        injection h with h1 h2
        subst h1 h2
        have HA := Aside0.mk hr
        clear hr
        go_enter Try.func32, Try.ntmps32
        go_wp2_with fail
        refine (vector_Check.calls k _ _ _ _ _ _ _ _ _ (Kd.C_below HR1.out (below_alloc (Below.refl _ _) _)) hc1 H1.out).mono ?_
        rintro en w1 ⟨rfl, hb⟩
        obtain ⟨hB, hb2⟩ := h_new hb
        have c0 : w1.cell? ⟨w.heap.size, 0, none⟩ = some (.int .i64 a0_0) := (blk_cell hB 0).trans rfl
        have c1' : w1.cell? ⟨w.heap.size, 1, none⟩ = some (.int .i64 a0_1) := (blk_cell hB 1).trans rfl
        have c2' : w1.cell? ⟨w.heap.size, 2, none⟩ = some (.int .i64 a0_2) := (blk_cell hB 2).trans rfl
        have c3' : w1.cell? ⟨w.heap.size, 3, none⟩ = some (.int .i64 a0_3) := (blk_cell hB 3).trans rfl
        have HB1 := Aside0.mk hb2
        clear hb hB hb2
        go_wp2_with fail
        refine (vector_Check.calls k _ _ _ _ _ _ _ _ _ (Kd.C_below HR2.out HB1.out) hc2 H2.out).mono ?_
        rintro en w2 ⟨rfl, hb⟩
        have HB2 := Aside0.mk (below_step HB1.out hb)
        clear hb HB1 c0 c1' c2' c3'
        have hl1 : l1.length ≤ 9223372036854775807 := HR1.out.2.1
        go_wp2_with fail
        go_loopg [10, 14, 32] l1.length (fun g s10 s14 s32 wx => ∃ (n : Nat) (a : List Int), n + g = l1.length ∧ s32 = .int .i64 n ∧ Aside0 (Kd.R (Kd.int .i64) 3 wx w.heap.size (fun _ => True) s10 a) ∧ Aside0 (hacc vector_Unlike_1.f ([] : List Int) l1 l2 n = some a) ∧ Aside0 (Below w.heap.size w wx))
        case atStart => exact ⟨0, ([] : List Int), by omega, rfl, ⟨Kd.R_nil _ _ _ _ _⟩, ⟨rfl⟩, HB2⟩
        case round =>
          obtain ⟨n, a, hng, rfl, HO, HN, HB⟩ := hrel
          cases gk with
          | zero =>
            obtain rfl : n = l1.length := by omega
            have ea : a = r := Option.some.inj (HN.out.symm.trans HA.out)
            subst ea
            go_wp2_with fail
            go_ret2
            exact ⟨_, rfl, HO.out, HB.out⟩
          | succ g =>
            have hn : n < l1.length := by omega
            have hn2 : n < l2.length := by omega
            obtain ⟨a1, ha1⟩ := hacc_le (m := n + 1) (by omega) HA.out
            obtain ⟨a', ha', hst⟩ := Option.bind_eq_some_iff.mp (show (hacc vector_Unlike_1.f ([] : List Int) l1 l2 n).bind _ = some a1 from ha1)
            have ea : a = a' := Option.some.inj (HN.out.symm.trans ha')
            subst ea
            obtain ⟨ad1, e1, hx1⟩ := Kd.at_int (Kd.C_below HR1.out HB.out) (n : Int) (by omega) (by omega)
            obtain ⟨ad2, e2, hx2⟩ := Kd.at_int (Kd.C_below HR2.out HB.out) (n : Int) (by omega) (by omega)
            rw [Int.toNat_natCast] at hx1 hx2
            cases e1
            cases e2
            have HS := Aside0.mk hst
            have HN1 := Aside0.mk ha1
            clear ha1 ha' hst HN h HA hup
            go_wp2_with fail
            go_region_with (go_at_call 36; refine (vector_Unlike_1.calls (fun _ => True) _ a _ _ _ a1 w _ (below_drew HB.out) (Kd.R_drew HO.out) HS.out).mono ?_; rintro en w4 ⟨v4, rfl, ho4, hb4, _⟩; have HO4 := Aside0.mk (Kd.R_mono ho4 (fun _ _ => trivial)); have HB4 := Aside0.mk hb4; clear ho4 hb4)
            all_goals
              go_wp2_with fail
              go_roundg g
              case measure => omega
              case rel => exact ⟨n + 1, a1, by omega, by go_num, HO4, HN1, HB4⟩
      · cases h
    · rw [if_neg z2] at h
      injection h with h
      injection h with h1 h2
      subst h1 h2
      have z2a : (e2 == 0) = false := beq_eq_false_iff_ne.mpr z2
      have z2b : (e2 != 0) = true := bne_iff_ne.mpr z2
      go_enter Try.func32, Try.ntmps32
      go_wp2_with fail
      refine (vector_Check.calls k _ _ _ _ _ _ _ _ _ (Kd.C_below HR1.out (below_alloc (Below.refl _ _) _)) hc1 H1.out).mono ?_
      rintro en w1 ⟨rfl, hb⟩
      obtain ⟨hB, hb2⟩ := h_new hb
      have c0 : w1.cell? ⟨w.heap.size, 0, none⟩ = some (.int .i64 a0_0) := (blk_cell hB 0).trans rfl
      have c1' : w1.cell? ⟨w.heap.size, 1, none⟩ = some (.int .i64 a0_1) := (blk_cell hB 1).trans rfl
      have c2' : w1.cell? ⟨w.heap.size, 2, none⟩ = some (.int .i64 a0_2) := (blk_cell hB 2).trans rfl
      have c3' : w1.cell? ⟨w.heap.size, 3, none⟩ = some (.int .i64 a0_3) := (blk_cell hB 3).trans rfl
      have HB1 := Aside0.mk hb2
      clear hb hB hb2
      go_wp2_with fail
      refine (vector_Check.calls k _ _ _ _ _ _ _ _ _ (Kd.C_below HR2.out HB1.out) hc2 H2.out).mono ?_
      rintro en w2 ⟨rfl, hb⟩
      have HBx := Aside0.mk (below_step HB1.out hb)
      clear hb HB1 c0 c1' c2' c3'
      go_wp2_with fail
      go_ret2
      exact ⟨_, rfl, Kd.R_nil _ _ _ _ _, HBx.out⟩
  · rw [if_neg z1] at h
    injection h with h
    injection h with h1 h2
    subst h1 h2
    have z1a : (e1 == 0) = false := beq_eq_false_iff_ne.mpr z1
    have z1b : (e1 != 0) = true := bne_iff_ne.mpr z1
    go_enter Try.func32, Try.ntmps32
    go_wp2_with fail
    refine (vector_Check.calls k _ _ _ _ _ _ _ _ _ (Kd.C_below HR1.out (below_alloc (Below.refl _ _) _)) hc1 H1.out).mono ?_
    rintro en w1 ⟨rfl, hb⟩
    have HBx := Aside0.mk (h_new hb).2
    clear hb
    go_wp2_with fail
    go_ret2
    exact ⟨_, rfl, Kd.R_nil _ _ _ _ _, HBx.out⟩
set_option maxHeartbeats 1000000 in
theorem vector_Unlike.calls (k : Nat) (a0_0 : Int) (a0_1 : Int) (a0_2 : Int) (a0_3 : Int) (A1 : Option Addr) (c1 : Nat) (l1 : List Int) (A2 : Option Addr) (c2 : Nat) (l2 : List Int) (r1 : List Int) (r2 : Int) (w : World) (hr1 : Kd.C (Kd.int .i64) w A1 l1.length l1) (hc1 : l1.length ≤ c1) (hr2 : Kd.C (Kd.int .i64) w A2 l2.length l2) (hc2 : l2.length ≤ c2) (h : vector_Unlike.f k a0_0 a0_1 a0_2 a0_3 l1 l2 = some (r1, r2)) :
    Calls Try.prog 15 #[.agg #[.int .i64 a0_0, .int .i64 a0_1, .int .i64 a0_2, .int .i64 a0_3], .slice A1 l1.length c1, .slice A2 l2.length c2] w fun e w' => ∃ v0_ : Value, e = .returned (.tuple #[v0_, .int .i64 r2]) ∧ Kd.R (Kd.int .i64) 3 w' w.heap.size (fun _ => True) v0_ r1 ∧ Below w.heap.size w w' := by
  have hup := Try.underlying24
  have HR1 := Aside0.mk hr1
  have HR2 := Aside0.mk hr2
  have H := Aside0.mk h
  clear hr1 hr2 h
  go_enter Try.func15, Try.ntmps15
  go_wp2_with fail
  refine (vector_Unlike.both_ k _ _ _ _ _ _ _ _ _ _ _ _ _ (Kd.C_below HR1.out (below_alloc (Below.refl _ _) _)) hc1 (Kd.C_below HR2.out (below_alloc (Below.refl _ _) _)) hc2 H.out).mono ?_
  rintro en w1 ⟨v, rfl, ho, hb⟩
  have HBx := Aside0.mk (h_new hb).2
  clear hb
  have HOx := Aside0.mk (Kd.R_lower ho (base' := w.heap.size) (by simp))
  clear ho
  go_wp2_with fail
  go_ret2
  exact ⟨_, rfl, HOx.out, HBx.out⟩

/-! ### twoslotref07_Same: function 20 -/
def twoslotref07_Same.l0 : Nat → List Int → List Int → Int → Option (Bool)
  | 0, _, _, _ => none
  | k + 1, x0, x1, x5 => if x5 < (x0.length : Int) then (if 0 ≤ x5 then (if x5 < (x1.length : Int) then (if (rd x0 x5) = (rd x1 x5) then (twoslotref07_Same.l0 k x0 x1 (wrap64 (x5 + 1))) else (some false)) else (none)) else (none)) else (some true)
def twoslotref07_Same.f (k : Nat) (l0 : List Int) (l1 : List Int) : Option (Bool) := if (l0.length : Int) = (l1.length : Int) then (twoslotref07_Same.l0 k l0 l1 0) else (some false)
theorem twoslotref07_Same.mono_l : ∀ k, (∀ y0 y1 y2, LeO (twoslotref07_Same.l0 k y0 y1 y2) (twoslotref07_Same.l0 (k + 1) y0 y1 y2))
  | 0 => fun _ _ _ r h => by simp [twoslotref07_Same.l0] at h
  | k + 1 => by
    have ih0 := twoslotref07_Same.mono_l k
    · intro y0 y1 y2
      unfold twoslotref07_Same.l0
      repeat' first
      | (with_reducible exact ih0 _ _ _)
      | (with_reducible exact LeO.refl _)
      | (with_reducible exact LeO.none _)
      | (with_reducible refine LeO.ite ?_ ?_)
      | (with_reducible refine LeO.bind ?_ (fun _ => ?_))
      | exact ih0 _ _ _
      | exact LeO.none _
      | refine LeO.ite ?_ ?_
      | refine LeO.bind ?_ (fun _ => ?_)
theorem twoslotref07_Same.mono : ∀ a0 a1 k, LeO (twoslotref07_Same.f k a0 a1) (twoslotref07_Same.f (k + 1) a0 a1) := by
  intro a0 a1 k
  have ih0 := twoslotref07_Same.mono_l k
  unfold twoslotref07_Same.f
  repeat' first
      | (with_reducible exact ih0 _ _ _)
      | (with_reducible exact LeO.refl _)
      | (with_reducible exact LeO.none _)
      | (with_reducible refine LeO.ite ?_ ?_)
      | (with_reducible refine LeO.bind ?_ (fun _ => ?_))
      | exact ih0 _ _ _
      | exact LeO.none _
      | refine LeO.ite ?_ ?_
      | refine LeO.bind ?_ (fun _ => ?_)
set_option maxHeartbeats 8000000 in
set_option maxRecDepth 100000 in
theorem twoslotref07_Same.calls (k : Nat) (A0 : Option Addr) (c0 : Nat) (l0 : List Int) (A1 : Option Addr) (c1 : Nat) (l1 : List Int) (r : Bool) (w : World) (hr0 : Kd.C (Kd.int .i64) w A0 l0.length l0) (hc0 : l0.length ≤ c0) (hr1 : Kd.C (Kd.int .i64) w A1 l1.length l1) (hc1 : l1.length ≤ c1) (h : twoslotref07_Same.f k l0 l1 = some r) :
    Calls Try.prog 20 #[.slice A0 l0.length c0, .slice A1 l1.length c1] w fun e w' => e = .returned (.bool r) ∧ Drawn0 w w' := by
  have HR0 := Aside0.mk hr0
  have HC0 := Aside0.mk hc0
  clear hr0 hc0
  have HR1 := Aside0.mk hr1
  have HC1 := Aside0.mk hc1
  clear hr1 hc1
  have H : (if (l0.length : Int) = (l1.length : Int) then (twoslotref07_Same.l0 k l0 l1 0) else (some false)) = some r := h
  clear h
  by_cases c3 : (l0.length : Int) = (l1.length : Int)
  · rw [if_pos c3] at H
    have c3b0 : ((l0.length : Int) == (l1.length : Int)) = true := beq_iff_eq.mpr c3
    have c3b1 : ((l0.length : Int) != (l1.length : Int)) = false := bne_eq_false_iff_eq.mpr c3
    have c3b2 : (l0.length == l1.length) = true := by first | simpa using c3 | (simp at c3 ⊢; omega)
    clear c3
    have H' := Aside0.mk H
    clear H
    go_enter Try.func20, Try.ntmps20
    go_wp2
    repeat (go_quiet (fail); try go_wp2)
    go_loopg [5] k (fun kq v5 w' => ∃ (x5_1 : Int), v5 = .int .i64 x5_1 ∧ Aside0 (twoslotref07_Same.l0 kq l0 l1 x5_1 = some r) ∧ Aside0 (kq ≤ k) ∧ Drawn0 w w')
    case atStart => exact ⟨(0), (by first | rfl | (simp; done) | (simp [*]; done)), H', ⟨Nat.le_refl _⟩, by repeat (first | exact Drawn0.refl _ | apply Drawn0.step)⟩
    case round =>
      clear H'
      try clear c1
      try clear c2
      try clear p2
      try clear c3
      try clear c3b0
      try clear c3b1
      try clear c3b2
      obtain ⟨x5_1, rfl, HA, HK1, ⟨m1, rfl⟩⟩ := hrel
      cases gk with
      | zero => exact absurd HA.out (by simp [twoslotref07_Same.l0])
      | succ k1 =>
        have H := HA.out
        clear HA
        simp only [twoslotref07_Same.l0] at H
        by_cases c4 : x5_1 < (l0.length : Int)
        · rw [if_pos c4] at H
          have c4b0 : decide (x5_1 < (l0.length : Int)) = true := decide_eq_true c4
          clear c4
          by_cases c5 : 0 ≤ x5_1
          · rw [if_pos c5] at H
            have c5b0 : decide (0 ≤ x5_1) = true := decide_eq_true c5
            clear c5
            by_cases c6 : x5_1 < (l1.length : Int)
            · rw [if_pos c6] at H
              have c6b0 : decide (x5_1 < (l1.length : Int)) = true := decide_eq_true c6
              clear c6
              by_cases c7 : (rd l0 x5_1) = (rd l1 x5_1)
              · rw [if_pos c7] at H
                have c7b0 : ((rd l0 x5_1) == (rd l1 x5_1)) = true := beq_iff_eq.mpr c7
                have c7b1 : ((rd l0 x5_1) != (rd l1 x5_1)) = false := bne_eq_false_iff_eq.mpr c7
                clear c7
                have H' := Aside0.mk H
                clear H
                have p133 : 0 ≤ (x5_1 : Int) := of_decide_eq_true (by first | (with_reducible assumption) | assumption)
                have q133 : x5_1 < (l0.length : Int) := of_decide_eq_true (by first | (with_reducible assumption) | assumption)
                obtain ⟨ad133, e133, hx133_0⟩ := Kd.at_int HR0.out x5_1 p133 q133
                cases e133
                replace p133 := eq_true p133
                replace q133 := eq_true q133
                have p134 : 0 ≤ (x5_1 : Int) := of_decide_eq_true (by first | (with_reducible assumption) | assumption)
                have q134 : x5_1 < (l1.length : Int) := of_decide_eq_true (by first | (with_reducible assumption) | assumption)
                obtain ⟨ad134, e134, hx134_0⟩ := Kd.at_int HR1.out x5_1 p134 q134
                cases e134
                replace p134 := eq_true p134
                replace q134 := eq_true q134
                go_wp2
                repeat (go_quiet (fail); try go_wp2)
                go_roundg k1
                case measure => have := HK1.out; omega
                case rel => exact ⟨(wrap64 (x5_1 + 1)), (by first | rfl | (simp; done) | (simp [*]; done)), H', ⟨by have := HK1.out; omega⟩, by repeat (first | exact Drawn0.refl _ | apply Drawn0.step)⟩
              · rw [if_neg c7] at H
                have c7b0 : ((rd l0 x5_1) == (rd l1 x5_1)) = false := beq_eq_false_iff_ne.mpr c7
                have c7b1 : ((rd l0 x5_1) != (rd l1 x5_1)) = true := bne_iff_ne.mpr c7
                obtain rfl := Option.some.inj H
                have p133 : 0 ≤ (x5_1 : Int) := of_decide_eq_true (by first | (with_reducible assumption) | assumption)
                have q133 : x5_1 < (l0.length : Int) := of_decide_eq_true (by first | (with_reducible assumption) | assumption)
                obtain ⟨ad133, e133, hx133_0⟩ := Kd.at_int HR0.out x5_1 p133 q133
                cases e133
                replace p133 := eq_true p133
                replace q133 := eq_true q133
                have p134 : 0 ≤ (x5_1 : Int) := of_decide_eq_true (by first | (with_reducible assumption) | assumption)
                have q134 : x5_1 < (l1.length : Int) := of_decide_eq_true (by first | (with_reducible assumption) | assumption)
                obtain ⟨ad134, e134, hx134_0⟩ := Kd.at_int HR1.out x5_1 p134 q134
                cases e134
                replace p134 := eq_true p134
                replace q134 := eq_true q134
                go_wp2
                repeat (go_quiet (fail); try go_wp2)
                go_ret
                exact ⟨by first | rfl | (simp; done) | (simp [*]; done), by repeat (first | exact Drawn0.refl _ | apply Drawn0.step)⟩
            · rw [if_neg c6] at H
              exact absurd H (by simp)
          · rw [if_neg c5] at H
            exact absurd H (by simp)
        · rw [if_neg c4] at H
          have c4b0 : decide (x5_1 < (l0.length : Int)) = false := decide_eq_false c4
          clear c4
          obtain rfl := Option.some.inj H
          go_wp2
          repeat (go_quiet (fail); try go_wp2)
          go_ret
          exact ⟨by first | rfl | (simp; done) | (simp [*]; done), by repeat (first | exact Drawn0.refl _ | apply Drawn0.step)⟩
  · rw [if_neg c3] at H
    have c3b0 : ((l0.length : Int) == (l1.length : Int)) = false := beq_eq_false_iff_ne.mpr c3
    have c3b1 : ((l0.length : Int) != (l1.length : Int)) = true := bne_iff_ne.mpr c3
    have c3b2 : (l0.length == l1.length) = false := by first | simpa using c3 | (simp at c3 ⊢; omega)
    obtain rfl := Option.some.inj H
    go_enter Try.func20, Try.ntmps20
    go_wp2
    repeat (go_quiet (fail); try go_wp2)
    go_ret
    exact ⟨by first | rfl | (simp; done) | (simp [*]; done), by repeat (first | exact Drawn0.refl _ | apply Drawn0.step)⟩

end Go.Proofs.Ytkmcjmhnoccedaa.PC
