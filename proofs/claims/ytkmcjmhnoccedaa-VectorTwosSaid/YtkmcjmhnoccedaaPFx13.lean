-- written by the session's own program (wip/prt.py) over the kit's print: not print.sh's own text
import Derived.Test.YtkmcjmhnoccedaaPFx0
import Derived.Test.YtkmcjmhnoccedaaPFx1
import Derived.Test.YtkmcjmhnoccedaaPFx6
import Derived.Test.YtkmcjmhnoccedaaPFx7
import Derived.Test.YtkmcjmhnoccedaaPFx8
import Derived.Test.YtkmcjmhnoccedaaPFx9
import Derived.Test.YtkmcjmhnoccedaaPFx11
import Derived.Test.YtkmcjmhnoccedaaPFx12
namespace Go.Proofs.Ytkmcjmhnoccedaa.PF
open Go.RowKit Go.Proofs.YtkmcjmhnoccedaaW.PrintWords Go.Proofs.YtkmcjmhnoccedaaW.PrintLast Go.Proofs.YtkmcjmhnoccedaaW.PrintMore
attribute [local go_sem] max2_int min2_int max_two min_two max_three min_three max_four min_four   -- for this text's walks alone
set_option linter.unusedVariables false
set_option linter.unusedSimpArgs false

/-! ### twoslotlaw07_VectorTwos: function 5 -/
mutual
def twoslotlaw07_VectorTwos.j0 : Nat → List Int → List Int → Bool → Int → Int → Int → Int → Option (Bool)
  | 0, _, _, _, _, _, _, _ => none
  | k + 1, x1, x2, x33, x247000, x247001, x247002, x247003 => if x33 = true then (some true) else ((twoslotlaw07_lent.f x1).bind fun t248 => ((twoslotlaw07_lent.f x2).bind fun t251 => ((vector_Join.f k x247000 x247001 x247002 x247003 t248 t251).bind fun bt254 => ((vector_Below.f k x247000 x247001 x247002 x247003 t248 t251).bind fun bt258 => ((vector_Unlike.f k x247000 x247001 x247002 x247003 t248 t251).bind fun bt260 => ((twoslotref07_Join.f k x247000 x247001 x247002 x247003 x1 x2).bind fun bt264 => ((twoslotref07_Below.f k x247000 x247001 x247002 x247003 x1 x2).bind fun bt268 => ((twoslotref07_Unlike.f k x247000 x247001 x247002 x247003 x1 x2).bind fun bt270 => ((twoslotref07_Same.f k bt254.1 bt264.1).bind fun t274 => (if t274 = true then (if (bt258.1 == bt268.1) = true then ((twoslotref07_Same.f k bt260.1 bt270.1).bind fun t275 => (twoslotlaw07_VectorTwos.j1 k x1 x2 t248 t251 bt254.1 bt254.2 bt258.2 bt260.1 bt260.2 bt264.2 bt268.2 bt270.2 t275)) else (twoslotlaw07_VectorTwos.j1 k x1 x2 t248 t251 bt254.1 bt254.2 bt258.2 bt260.1 bt260.2 bt264.2 bt268.2 bt270.2 false)) else (twoslotlaw07_VectorTwos.j1 k x1 x2 t248 t251 bt254.1 bt254.2 bt258.2 bt260.1 bt260.2 bt264.2 bt268.2 bt270.2 false)))))))))))
def twoslotlaw07_VectorTwos.j1 : Nat → List Int → List Int → List Int → List Int → List Int → Int → Int → List Int → Int → Int → Int → Int → Bool → Option (Bool)
  | 0, _, _, _, _, _, _, _, _, _, _, _, _, _ => none
  | k + 1, x1, x2, x8, x9, x10, x11, x13, x14, x15, x17, x19, x21, x22 => (twoslotlaw07_spoil.f k x10).bind fun t276 => ((twoslotlaw07_spoil.f k x14).bind fun t277 => (if x22 = true then ((twoslotlaw07_kept.f k x8 x1).bind fun t278 => (if t278 = true then ((twoslotlaw07_kept.f k x9 x2).bind fun t279 => (if t279 = true then (if x11 = x17 then (if x13 = x19 then (some (x15 == x21)) else (none)) else (none)) else (none))) else (none))) else (none)))
end
def twoslotlaw07_VectorTwos.f (k : Nat) (a0_0 : Int) (a0_1 : Int) (a0_2 : Int) (a0_3 : Int) (l1 : List Int) (l2 : List Int) : Option (Bool) := (twoslotlaw07_alive.f k).bind fun t247 => (if t247 = true then (if (l1.length : Int) > 200 then (twoslotlaw07_VectorTwos.j0 k l1 l2 true a0_0 a0_1 a0_2 a0_3) else (twoslotlaw07_VectorTwos.j0 k l1 l2 (decide ((l2.length : Int) > 200)) a0_0 a0_1 a0_2 a0_3)) else (none))
theorem twoslotlaw07_VectorTwos.mono_l : ∀ k, (∀ y0 y1 y2 y3 y4 y5 y6, LeO (twoslotlaw07_VectorTwos.j0 k y0 y1 y2 y3 y4 y5 y6) (twoslotlaw07_VectorTwos.j0 (k + 1) y0 y1 y2 y3 y4 y5 y6)) ∧ (∀ y0 y1 y2 y3 y4 y5 y6 y7 y8 y9 y10 y11 y12, LeO (twoslotlaw07_VectorTwos.j1 k y0 y1 y2 y3 y4 y5 y6 y7 y8 y9 y10 y11 y12) (twoslotlaw07_VectorTwos.j1 (k + 1) y0 y1 y2 y3 y4 y5 y6 y7 y8 y9 y10 y11 y12))
  | 0 => ⟨fun _ _ _ _ _ _ _ r h => by simp [twoslotlaw07_VectorTwos.j0] at h, fun _ _ _ _ _ _ _ _ _ _ _ _ _ r h => by simp [twoslotlaw07_VectorTwos.j1] at h⟩
  | k + 1 => by
    obtain ⟨ih0, ih1⟩ := twoslotlaw07_VectorTwos.mono_l k
    refine ⟨?_, ?_⟩
    · intro y0 y1 y2 y3 y4 y5 y6
      unfold twoslotlaw07_VectorTwos.j0
      repeat' first
      | (with_reducible exact ih0 _ _ _ _ _ _ _)
      | (with_reducible exact ih1 _ _ _ _ _ _ _ _ _ _ _ _ _)
      | (with_reducible exact twoslotlaw07_alive.mono _)
      | (with_reducible exact twoslotlaw07_kept.mono _ _ _)
      | (with_reducible exact twoslotlaw07_spoil.mono _ _)
      | (with_reducible exact twoslotref07_Below.mono _ _ _ _ _ _ _)
      | (with_reducible exact twoslotref07_Join.mono _ _ _ _ _ _ _)
      | (with_reducible exact twoslotref07_Same.mono _ _ _)
      | (with_reducible exact twoslotref07_Unlike.mono _ _ _ _ _ _ _)
      | (with_reducible exact vector_Below.mono _ _ _ _ _ _ _)
      | (with_reducible exact vector_Join.mono _ _ _ _ _ _ _)
      | (with_reducible exact vector_Unlike.mono _ _ _ _ _ _ _)
      | (with_reducible exact LeO.refl _)
      | (with_reducible exact LeO.none _)
      | (with_reducible refine LeO.ite ?_ ?_)
      | (with_reducible refine LeO.bind ?_ (fun _ => ?_))
      | exact ih0 _ _ _ _ _ _ _
      | exact ih1 _ _ _ _ _ _ _ _ _ _ _ _ _
      | exact twoslotlaw07_alive.mono _
      | exact twoslotlaw07_kept.mono _ _ _
      | exact twoslotlaw07_spoil.mono _ _
      | exact twoslotref07_Below.mono _ _ _ _ _ _ _
      | exact twoslotref07_Join.mono _ _ _ _ _ _ _
      | exact twoslotref07_Same.mono _ _ _
      | exact twoslotref07_Unlike.mono _ _ _ _ _ _ _
      | exact vector_Below.mono _ _ _ _ _ _ _
      | exact vector_Join.mono _ _ _ _ _ _ _
      | exact vector_Unlike.mono _ _ _ _ _ _ _
      | exact LeO.none _
      | refine LeO.ite ?_ ?_
      | refine LeO.bind ?_ (fun _ => ?_)
    · intro y0 y1 y2 y3 y4 y5 y6 y7 y8 y9 y10 y11 y12
      unfold twoslotlaw07_VectorTwos.j1
      repeat' first
      | (with_reducible exact ih0 _ _ _ _ _ _ _)
      | (with_reducible exact ih1 _ _ _ _ _ _ _ _ _ _ _ _ _)
      | (with_reducible exact twoslotlaw07_alive.mono _)
      | (with_reducible exact twoslotlaw07_kept.mono _ _ _)
      | (with_reducible exact twoslotlaw07_spoil.mono _ _)
      | (with_reducible exact twoslotref07_Below.mono _ _ _ _ _ _ _)
      | (with_reducible exact twoslotref07_Join.mono _ _ _ _ _ _ _)
      | (with_reducible exact twoslotref07_Same.mono _ _ _)
      | (with_reducible exact twoslotref07_Unlike.mono _ _ _ _ _ _ _)
      | (with_reducible exact vector_Below.mono _ _ _ _ _ _ _)
      | (with_reducible exact vector_Join.mono _ _ _ _ _ _ _)
      | (with_reducible exact vector_Unlike.mono _ _ _ _ _ _ _)
      | (with_reducible exact LeO.refl _)
      | (with_reducible exact LeO.none _)
      | (with_reducible refine LeO.ite ?_ ?_)
      | (with_reducible refine LeO.bind ?_ (fun _ => ?_))
      | exact ih0 _ _ _ _ _ _ _
      | exact ih1 _ _ _ _ _ _ _ _ _ _ _ _ _
      | exact twoslotlaw07_alive.mono _
      | exact twoslotlaw07_kept.mono _ _ _
      | exact twoslotlaw07_spoil.mono _ _
      | exact twoslotref07_Below.mono _ _ _ _ _ _ _
      | exact twoslotref07_Join.mono _ _ _ _ _ _ _
      | exact twoslotref07_Same.mono _ _ _
      | exact twoslotref07_Unlike.mono _ _ _ _ _ _ _
      | exact vector_Below.mono _ _ _ _ _ _ _
      | exact vector_Join.mono _ _ _ _ _ _ _
      | exact vector_Unlike.mono _ _ _ _ _ _ _
      | exact LeO.none _
      | refine LeO.ite ?_ ?_
      | refine LeO.bind ?_ (fun _ => ?_)
theorem twoslotlaw07_VectorTwos.mono : ∀ a0 a1 a2 a3 a4 a5 k, LeO (twoslotlaw07_VectorTwos.f k a0 a1 a2 a3 a4 a5) (twoslotlaw07_VectorTwos.f (k + 1) a0 a1 a2 a3 a4 a5) := by
  intro a0 a1 a2 a3 a4 a5 k
  obtain ⟨ih0, ih1⟩ := twoslotlaw07_VectorTwos.mono_l k
  unfold twoslotlaw07_VectorTwos.f
  repeat' first
      | (with_reducible exact ih0 _ _ _ _ _ _ _)
      | (with_reducible exact ih1 _ _ _ _ _ _ _ _ _ _ _ _ _)
      | (with_reducible exact twoslotlaw07_alive.mono _)
      | (with_reducible exact twoslotlaw07_kept.mono _ _ _)
      | (with_reducible exact twoslotlaw07_spoil.mono _ _)
      | (with_reducible exact twoslotref07_Below.mono _ _ _ _ _ _ _)
      | (with_reducible exact twoslotref07_Join.mono _ _ _ _ _ _ _)
      | (with_reducible exact twoslotref07_Same.mono _ _ _)
      | (with_reducible exact twoslotref07_Unlike.mono _ _ _ _ _ _ _)
      | (with_reducible exact vector_Below.mono _ _ _ _ _ _ _)
      | (with_reducible exact vector_Join.mono _ _ _ _ _ _ _)
      | (with_reducible exact vector_Unlike.mono _ _ _ _ _ _ _)
      | (with_reducible exact LeO.refl _)
      | (with_reducible exact LeO.none _)
      | (with_reducible refine LeO.ite ?_ ?_)
      | (with_reducible refine LeO.bind ?_ (fun _ => ?_))
      | exact ih0 _ _ _ _ _ _ _
      | exact ih1 _ _ _ _ _ _ _ _ _ _ _ _ _
      | exact twoslotlaw07_alive.mono _
      | exact twoslotlaw07_kept.mono _ _ _
      | exact twoslotlaw07_spoil.mono _ _
      | exact twoslotref07_Below.mono _ _ _ _ _ _ _
      | exact twoslotref07_Join.mono _ _ _ _ _ _ _
      | exact twoslotref07_Same.mono _ _ _
      | exact twoslotref07_Unlike.mono _ _ _ _ _ _ _
      | exact vector_Below.mono _ _ _ _ _ _ _
      | exact vector_Join.mono _ _ _ _ _ _ _
      | exact vector_Unlike.mono _ _ _ _ _ _ _
      | exact LeO.none _
      | refine LeO.ite ?_ ?_
      | refine LeO.bind ?_ (fun _ => ?_)
set_option maxHeartbeats 8000000 in
set_option maxRecDepth 100000 in
theorem twoslotlaw07_VectorTwos.calls (k : Nat) (a0_0 : Int) (a0_1 : Int) (a0_2 : Int) (a0_3 : Int) (A1 : Option Addr) (c1 : Nat) (l1 : List Int) (A2 : Option Addr) (c2 : Nat) (l2 : List Int) (r : Bool) (w : World) (hr1 : Kd.C (Kd.int .i64) w A1 l1.length l1) (hc1 : l1.length ≤ c1) (hr2 : Kd.C (Kd.int .i64) w A2 l2.length l2) (hc2 : l2.length ≤ c2) (h : twoslotlaw07_VectorTwos.f k a0_0 a0_1 a0_2 a0_3 l1 l2 = some r) :
    Calls Try.prog 5 #[.agg #[.int .i64 a0_0, .int .i64 a0_1, .int .i64 a0_2, .int .i64 a0_3], .slice A1 l1.length c1, .slice A2 l2.length c2] w fun e w' => e = .returned (.bool r) ∧ Below w.heap.size w w' := by
  have hu24 := Try.underlying24
  have HR1 := Aside0.mk hr1
  have HC1 := Aside0.mk hc1
  clear hr1 hc1
  have HR2 := Aside0.mk hr2
  have HC2 := Aside0.mk hc2
  clear hr2 hc2
  have HB := Aside0.mk (Below.refl w.heap.size w)
  have H : ((twoslotlaw07_alive.f k).bind fun t247 => (if t247 = true then (if (l1.length : Int) > 200 then (twoslotlaw07_VectorTwos.j0 k l1 l2 true a0_0 a0_1 a0_2 a0_3) else (twoslotlaw07_VectorTwos.j0 k l1 l2 (decide ((l2.length : Int) > 200)) a0_0 a0_1 a0_2 a0_3)) else (none))) = some r := h
  clear h
  replace H := Option.bind_eq_some_iff.mp H
  obtain ⟨t247, A40, H⟩ := H
  replace H : (if t247 = true then (if (l1.length : Int) > 200 then (twoslotlaw07_VectorTwos.j0 k l1 l2 true a0_0 a0_1 a0_2 a0_3) else (twoslotlaw07_VectorTwos.j0 k l1 l2 (decide ((l2.length : Int) > 200)) a0_0 a0_1 a0_2 a0_3)) else (none)) = some r := H
  have A4 := Aside0.mk A40
  clear A40
  by_cases c5 : t247 = true
  · subst c5
    have H1 : (if (l1.length : Int) > 200 then (twoslotlaw07_VectorTwos.j0 k l1 l2 true a0_0 a0_1 a0_2 a0_3) else (twoslotlaw07_VectorTwos.j0 k l1 l2 (decide ((l2.length : Int) > 200)) a0_0 a0_1 a0_2 a0_3)) = some r := by rw [if_pos rfl] at H; exact H
    clear H
    have H := H1
    clear H1
    have HC6 := Aside0.mk H
    clear H
    go_enter Try.func5, Try.ntmps5
    go_upto_region 4 with (first | ((with_reducible refine gate_dst (N := 3) rfl ?_); (try (refine gate_guard (by rfl) ?_; dsimp only)); refine box_event ?hg (N := 3) ?hd (cs := #[.int .i64 a0_0, .int .i64 a0_1, .int .i64 a0_2, .int .i64 a0_3]) (t := 24) ?hr ?_; (case hd => rfl); (case hg => rfl); (case hr => first | (go_simp; done) | (go_simp; rfl)); intro gb246 hg w7 hbox hb; have n0_ := Aside0.mk (below_step (by repeat (first | (with_reducible first | exact HB.out | apply below_alloc | apply pw_below_drewN | apply below_drew1) | exact HB.out)) hb); have n1_ := Aside0.mk (hbox); have n2_ := Aside0.mk ((by rw [hg]; exact (below_size (by repeat (first | (with_reducible first | exact HB.out | apply below_alloc | apply pw_below_drewN | apply below_drew1) | exact HB.out))) : w.heap.size ≤ gb246)); have n3_ := Aside0.mk ((by rw [hg]; exact (below_size (by repeat (first | (with_reducible first | exact HB.out | apply below_alloc | apply pw_below_drewN | apply below_drew1) | exact HB.out))) : w.heap.size ≤ gb246)); clear HB; have HB := n0_; have BK246 := n1_; have GW246 := n2_; have GE246 := n3_; clear n0_ n1_ n2_ n3_; clear hb hbox hg) | ((with_reducible refine gate_callee (f := 8) rfl ?_); refine goesL_ (some 23) rfl rfl Try.func8 (by kernel_rfl) rfl #[] rfl (by (try simp only [List.map_toArray, List.map_cons, List.map_nil]); first | done | rfl | (simp only [List.length_drop, List.length_take]; rfl)) ?_; (with_reducible refine (twoslotlaw07_alive.calls k  true _ A4.out).mono ?_); rintro e w8 ⟨rfl, hb⟩; refine ⟨_, rfl, ?_⟩; have n0_ := Aside0.mk (blk_below (g := gb246) (o := .cells #[.int .i64 a0_0, .int .i64 a0_1, .int .i64 a0_2, .int .i64 a0_3] 24 (0, 0)) (by (with_reducible repeat (first | refine blk_drewN ?_ _ | refine blk_drew ?_ | refine blk_alloc ?_ _)); exact BK246.out) hb); have n1_ := Aside0.mk (below_step (by repeat (first | (with_reducible first | exact HB.out | apply below_alloc | apply pw_below_drewN | apply below_drew1 | refine below_set ?_ GE246.out) | exact HB.out)) hb); clear BK246; clear HB; have BK246 := n0_; have HB := n1_; clear n0_ n1_; (try clear hb); (try clear hb2); (try clear hk); (try clear hi)))
    (try simp only [Act.put, List.setIfInBounds_toArray, List.set_cons_zero, List.set_cons_succ])
    go_cut [33] (fun v33 wc => ∃ (kq : Nat) (x33_5 : Bool), v33 = .bool x33_5 ∧ Aside0 (twoslotlaw07_VectorTwos.j0 kq l1 l2 x33_5 a0_0 a0_1 a0_2 a0_3 = some r) ∧ Aside0 (kq ≤ k) ∧ Aside0 (wc.heap[gb246]? = some (.cells #[.int .i64 a0_0, .int .i64 a0_1, .int .i64 a0_2, .int .i64 a0_3] 24 (0, 0))) ∧ Aside0 (Below w.heap.size w wc))
    case first =>
      have H := HC6.out
      clear HC6
      by_cases c9 : (l1.length : Int) > 200
      · rw [if_pos c9] at H
        have c9b0 : decide (200 < (l1.length : Int)) = true := decide_eq_true c9
        have c9b1 : decide (200 < l1.length) = true := decide_eq_true (by omega)
        clear c9
        (first | rw [c9b0] | (simp only [i64_w, i32_w]; rw [c9b0]) | skip)
        have H' := Aside0.mk H
        clear H
        go_wp2
        go_meet
        case rel => exact ⟨_, (true), (by first | rfl | (simp; done) | (simp [*]; done)), H', ⟨by first | omega | exact Nat.le_refl _⟩, ⟨by (with_reducible repeat (first | refine blk_drewN ?_ _ | refine blk_drew ?_ | refine blk_alloc ?_ _)); exact BK246.out⟩, ⟨by repeat (first | (with_reducible first | exact HB.out | apply below_alloc | apply pw_below_drewN | apply below_drew1 | refine below_set ?_ GE246.out) | exact HB.out)⟩⟩
      · rw [if_neg c9] at H
        have c9b0 : decide (200 < (l1.length : Int)) = false := decide_eq_false c9
        have c9b1 : decide (200 < l1.length) = false := decide_eq_false (by omega)
        clear c9
        (first | rw [c9b0] | (simp only [i64_w, i32_w]; rw [c9b0]) | skip)
        have H' := Aside0.mk H
        clear H
        go_wp2
        go_meet
        case rel => exact ⟨_, (decide ((l2.length : Int) > 200)), (by first | rfl | (simp; done) | (simp [*]; done)), H', ⟨by first | omega | exact Nat.le_refl _⟩, ⟨by (with_reducible repeat (first | refine blk_drewN ?_ _ | refine blk_drew ?_ | refine blk_alloc ?_ _)); exact BK246.out⟩, ⟨by repeat (first | (with_reducible first | exact HB.out | apply below_alloc | apply pw_below_drewN | apply below_drew1 | refine below_set ?_ GE246.out) | exact HB.out)⟩⟩
    case rest =>
      clear HC6
      try clear c1
      try clear c2
      try clear p2
      try clear c5
      try clear c8
      try clear c9
      try clear c9b0
      try clear c9b1
      obtain ⟨kq, x33_5, rfl, HA, HJ5, BK246, HB⟩ := hcut
      cases kq with
      | zero => exact absurd HA.out (by simp [twoslotlaw07_VectorTwos.j0])
      | succ kj5 =>
        have H := HA.out
        clear HA
        simp only [twoslotlaw07_VectorTwos.j0] at H
        by_cases c10 : x33_5 = true
        · subst c10
          have H1 : (some true) = some r := by rw [if_pos rfl] at H; exact H
          clear H
          have H := H1
          clear H1
          obtain rfl := Option.some.inj H
          go_wp2
          go_ret
          exact ⟨by first | rfl | (simp [errW_none, errW_some] <;> rfl) | (simp [*, errW_none, errW_some] <;> rfl), by repeat (first | (with_reducible first | exact HB.out | apply below_alloc | apply pw_below_drewN | apply below_drew1 | refine below_set ?_ GE246.out) | exact HB.out)⟩
        · replace c10 := Bool.eq_false_iff.mpr c10
          subst c10
          have H1 : ((twoslotlaw07_lent.f l1).bind fun t248 => ((twoslotlaw07_lent.f l2).bind fun t251 => ((vector_Join.f kj5 a0_0 a0_1 a0_2 a0_3 t248 t251).bind fun bt254 => ((vector_Below.f kj5 a0_0 a0_1 a0_2 a0_3 t248 t251).bind fun bt258 => ((vector_Unlike.f kj5 a0_0 a0_1 a0_2 a0_3 t248 t251).bind fun bt260 => ((twoslotref07_Join.f kj5 a0_0 a0_1 a0_2 a0_3 l1 l2).bind fun bt264 => ((twoslotref07_Below.f kj5 a0_0 a0_1 a0_2 a0_3 l1 l2).bind fun bt268 => ((twoslotref07_Unlike.f kj5 a0_0 a0_1 a0_2 a0_3 l1 l2).bind fun bt270 => ((twoslotref07_Same.f kj5 bt254.1 bt264.1).bind fun t274 => (if t274 = true then (if (bt258.1 == bt268.1) = true then ((twoslotref07_Same.f kj5 bt260.1 bt270.1).bind fun t275 => (twoslotlaw07_VectorTwos.j1 kj5 l1 l2 t248 t251 bt254.1 bt254.2 bt258.2 bt260.1 bt260.2 bt264.2 bt268.2 bt270.2 t275)) else (twoslotlaw07_VectorTwos.j1 kj5 l1 l2 t248 t251 bt254.1 bt254.2 bt258.2 bt260.1 bt260.2 bt264.2 bt268.2 bt270.2 false)) else (twoslotlaw07_VectorTwos.j1 kj5 l1 l2 t248 t251 bt254.1 bt254.2 bt258.2 bt260.1 bt260.2 bt264.2 bt268.2 bt270.2 false))))))))))) = some r := by rw [if_neg (show ¬ (false = true) by decide)] at H; exact H
          clear H
          have H := H1
          clear H1
          replace H := Option.bind_eq_some_iff.mp H
          obtain ⟨t248, A110, H⟩ := H
          replace H : ((twoslotlaw07_lent.f l2).bind fun t251 => ((vector_Join.f kj5 a0_0 a0_1 a0_2 a0_3 t248 t251).bind fun bt254 => ((vector_Below.f kj5 a0_0 a0_1 a0_2 a0_3 t248 t251).bind fun bt258 => ((vector_Unlike.f kj5 a0_0 a0_1 a0_2 a0_3 t248 t251).bind fun bt260 => ((twoslotref07_Join.f kj5 a0_0 a0_1 a0_2 a0_3 l1 l2).bind fun bt264 => ((twoslotref07_Below.f kj5 a0_0 a0_1 a0_2 a0_3 l1 l2).bind fun bt268 => ((twoslotref07_Unlike.f kj5 a0_0 a0_1 a0_2 a0_3 l1 l2).bind fun bt270 => ((twoslotref07_Same.f kj5 bt254.1 bt264.1).bind fun t274 => (if t274 = true then (if (bt258.1 == bt268.1) = true then ((twoslotref07_Same.f kj5 bt260.1 bt270.1).bind fun t275 => (twoslotlaw07_VectorTwos.j1 kj5 l1 l2 t248 t251 bt254.1 bt254.2 bt258.2 bt260.1 bt260.2 bt264.2 bt268.2 bt270.2 t275)) else (twoslotlaw07_VectorTwos.j1 kj5 l1 l2 t248 t251 bt254.1 bt254.2 bt258.2 bt260.1 bt260.2 bt264.2 bt268.2 bt270.2 false)) else (twoslotlaw07_VectorTwos.j1 kj5 l1 l2 t248 t251 bt254.1 bt254.2 bt258.2 bt260.1 bt260.2 bt264.2 bt268.2 bt270.2 false)))))))))) = some r := H
          have A11 := Aside0.mk A110
          clear A110
          replace H := Option.bind_eq_some_iff.mp H
          obtain ⟨t251, A120, H⟩ := H
          replace H : ((vector_Join.f kj5 a0_0 a0_1 a0_2 a0_3 t248 t251).bind fun bt254 => ((vector_Below.f kj5 a0_0 a0_1 a0_2 a0_3 t248 t251).bind fun bt258 => ((vector_Unlike.f kj5 a0_0 a0_1 a0_2 a0_3 t248 t251).bind fun bt260 => ((twoslotref07_Join.f kj5 a0_0 a0_1 a0_2 a0_3 l1 l2).bind fun bt264 => ((twoslotref07_Below.f kj5 a0_0 a0_1 a0_2 a0_3 l1 l2).bind fun bt268 => ((twoslotref07_Unlike.f kj5 a0_0 a0_1 a0_2 a0_3 l1 l2).bind fun bt270 => ((twoslotref07_Same.f kj5 bt254.1 bt264.1).bind fun t274 => (if t274 = true then (if (bt258.1 == bt268.1) = true then ((twoslotref07_Same.f kj5 bt260.1 bt270.1).bind fun t275 => (twoslotlaw07_VectorTwos.j1 kj5 l1 l2 t248 t251 bt254.1 bt254.2 bt258.2 bt260.1 bt260.2 bt264.2 bt268.2 bt270.2 t275)) else (twoslotlaw07_VectorTwos.j1 kj5 l1 l2 t248 t251 bt254.1 bt254.2 bt258.2 bt260.1 bt260.2 bt264.2 bt268.2 bt270.2 false)) else (twoslotlaw07_VectorTwos.j1 kj5 l1 l2 t248 t251 bt254.1 bt254.2 bt258.2 bt260.1 bt260.2 bt264.2 bt268.2 bt270.2 false))))))))) = some r := H
          have A12 := Aside0.mk A120
          clear A120
          replace H := Option.bind_eq_some_iff.mp H
          obtain ⟨⟨t254, t257⟩, A130, H⟩ := H
          replace H : ((vector_Below.f kj5 a0_0 a0_1 a0_2 a0_3 t248 t251).bind fun bt258 => ((vector_Unlike.f kj5 a0_0 a0_1 a0_2 a0_3 t248 t251).bind fun bt260 => ((twoslotref07_Join.f kj5 a0_0 a0_1 a0_2 a0_3 l1 l2).bind fun bt264 => ((twoslotref07_Below.f kj5 a0_0 a0_1 a0_2 a0_3 l1 l2).bind fun bt268 => ((twoslotref07_Unlike.f kj5 a0_0 a0_1 a0_2 a0_3 l1 l2).bind fun bt270 => ((twoslotref07_Same.f kj5 t254 bt264.1).bind fun t274 => (if t274 = true then (if (bt258.1 == bt268.1) = true then ((twoslotref07_Same.f kj5 bt260.1 bt270.1).bind fun t275 => (twoslotlaw07_VectorTwos.j1 kj5 l1 l2 t248 t251 t254 t257 bt258.2 bt260.1 bt260.2 bt264.2 bt268.2 bt270.2 t275)) else (twoslotlaw07_VectorTwos.j1 kj5 l1 l2 t248 t251 t254 t257 bt258.2 bt260.1 bt260.2 bt264.2 bt268.2 bt270.2 false)) else (twoslotlaw07_VectorTwos.j1 kj5 l1 l2 t248 t251 t254 t257 bt258.2 bt260.1 bt260.2 bt264.2 bt268.2 bt270.2 false)))))))) = some r := H
          have A13 := Aside0.mk A130
          clear A130
          replace H := Option.bind_eq_some_iff.mp H
          obtain ⟨⟨t258, t259⟩, A140, H⟩ := H
          replace H : ((vector_Unlike.f kj5 a0_0 a0_1 a0_2 a0_3 t248 t251).bind fun bt260 => ((twoslotref07_Join.f kj5 a0_0 a0_1 a0_2 a0_3 l1 l2).bind fun bt264 => ((twoslotref07_Below.f kj5 a0_0 a0_1 a0_2 a0_3 l1 l2).bind fun bt268 => ((twoslotref07_Unlike.f kj5 a0_0 a0_1 a0_2 a0_3 l1 l2).bind fun bt270 => ((twoslotref07_Same.f kj5 t254 bt264.1).bind fun t274 => (if t274 = true then (if (t258 == bt268.1) = true then ((twoslotref07_Same.f kj5 bt260.1 bt270.1).bind fun t275 => (twoslotlaw07_VectorTwos.j1 kj5 l1 l2 t248 t251 t254 t257 t259 bt260.1 bt260.2 bt264.2 bt268.2 bt270.2 t275)) else (twoslotlaw07_VectorTwos.j1 kj5 l1 l2 t248 t251 t254 t257 t259 bt260.1 bt260.2 bt264.2 bt268.2 bt270.2 false)) else (twoslotlaw07_VectorTwos.j1 kj5 l1 l2 t248 t251 t254 t257 t259 bt260.1 bt260.2 bt264.2 bt268.2 bt270.2 false))))))) = some r := H
          have A14 := Aside0.mk A140
          clear A140
          replace H := Option.bind_eq_some_iff.mp H
          obtain ⟨⟨t260, t263⟩, A150, H⟩ := H
          replace H : ((twoslotref07_Join.f kj5 a0_0 a0_1 a0_2 a0_3 l1 l2).bind fun bt264 => ((twoslotref07_Below.f kj5 a0_0 a0_1 a0_2 a0_3 l1 l2).bind fun bt268 => ((twoslotref07_Unlike.f kj5 a0_0 a0_1 a0_2 a0_3 l1 l2).bind fun bt270 => ((twoslotref07_Same.f kj5 t254 bt264.1).bind fun t274 => (if t274 = true then (if (t258 == bt268.1) = true then ((twoslotref07_Same.f kj5 t260 bt270.1).bind fun t275 => (twoslotlaw07_VectorTwos.j1 kj5 l1 l2 t248 t251 t254 t257 t259 t260 t263 bt264.2 bt268.2 bt270.2 t275)) else (twoslotlaw07_VectorTwos.j1 kj5 l1 l2 t248 t251 t254 t257 t259 t260 t263 bt264.2 bt268.2 bt270.2 false)) else (twoslotlaw07_VectorTwos.j1 kj5 l1 l2 t248 t251 t254 t257 t259 t260 t263 bt264.2 bt268.2 bt270.2 false)))))) = some r := H
          have A15 := Aside0.mk A150
          clear A150
          replace H := Option.bind_eq_some_iff.mp H
          obtain ⟨⟨t264, t267⟩, A160, H⟩ := H
          replace H : ((twoslotref07_Below.f kj5 a0_0 a0_1 a0_2 a0_3 l1 l2).bind fun bt268 => ((twoslotref07_Unlike.f kj5 a0_0 a0_1 a0_2 a0_3 l1 l2).bind fun bt270 => ((twoslotref07_Same.f kj5 t254 t264).bind fun t274 => (if t274 = true then (if (t258 == bt268.1) = true then ((twoslotref07_Same.f kj5 t260 bt270.1).bind fun t275 => (twoslotlaw07_VectorTwos.j1 kj5 l1 l2 t248 t251 t254 t257 t259 t260 t263 t267 bt268.2 bt270.2 t275)) else (twoslotlaw07_VectorTwos.j1 kj5 l1 l2 t248 t251 t254 t257 t259 t260 t263 t267 bt268.2 bt270.2 false)) else (twoslotlaw07_VectorTwos.j1 kj5 l1 l2 t248 t251 t254 t257 t259 t260 t263 t267 bt268.2 bt270.2 false))))) = some r := H
          have A16 := Aside0.mk A160
          clear A160
          replace H := Option.bind_eq_some_iff.mp H
          obtain ⟨⟨t268, t269⟩, A170, H⟩ := H
          replace H : ((twoslotref07_Unlike.f kj5 a0_0 a0_1 a0_2 a0_3 l1 l2).bind fun bt270 => ((twoslotref07_Same.f kj5 t254 t264).bind fun t274 => (if t274 = true then (if (t258 == t268) = true then ((twoslotref07_Same.f kj5 t260 bt270.1).bind fun t275 => (twoslotlaw07_VectorTwos.j1 kj5 l1 l2 t248 t251 t254 t257 t259 t260 t263 t267 t269 bt270.2 t275)) else (twoslotlaw07_VectorTwos.j1 kj5 l1 l2 t248 t251 t254 t257 t259 t260 t263 t267 t269 bt270.2 false)) else (twoslotlaw07_VectorTwos.j1 kj5 l1 l2 t248 t251 t254 t257 t259 t260 t263 t267 t269 bt270.2 false)))) = some r := H
          have A17 := Aside0.mk A170
          clear A170
          replace H := Option.bind_eq_some_iff.mp H
          obtain ⟨⟨t270, t273⟩, A180, H⟩ := H
          replace H : ((twoslotref07_Same.f kj5 t254 t264).bind fun t274 => (if t274 = true then (if (t258 == t268) = true then ((twoslotref07_Same.f kj5 t260 t270).bind fun t275 => (twoslotlaw07_VectorTwos.j1 kj5 l1 l2 t248 t251 t254 t257 t259 t260 t263 t267 t269 t273 t275)) else (twoslotlaw07_VectorTwos.j1 kj5 l1 l2 t248 t251 t254 t257 t259 t260 t263 t267 t269 t273 false)) else (twoslotlaw07_VectorTwos.j1 kj5 l1 l2 t248 t251 t254 t257 t259 t260 t263 t267 t269 t273 false))) = some r := H
          have A18 := Aside0.mk A180
          clear A180
          have HC19 := Aside0.mk H
          clear H
          go_upto_region 14 with (first | ((with_reducible refine gate_callee (f := 16) rfl ?_); refine goesL_ (some 35) rfl rfl Try.func16 (by kernel_rfl) rfl #[.slice A1 l1.length c1] rfl (by (try simp only [List.map_toArray, List.map_cons, List.map_nil]); first | done | rfl | (simp only [List.length_drop, List.length_take]; rfl)) ?_; (with_reducible refine (twoslotlaw07_lent.calls2 _ _ l1 t248 _ ?side1 ?side2 A11.out).mono ?_); (case side1 => repeat (first | exact (Kd.C_below HR1.out HB.out) | (with_reducible refine Kd.C_alloc ?_ _) | (with_reducible refine Kd.C_drewN ?_ _) | (with_reducible refine Kd.C_drew ?_))); (case side2 => exact HC1.out); rintro e w20 ⟨Ao23, co23, rfl, ho0, hb⟩; refine ⟨_, rfl, ?_⟩; have n0_ := Aside0.mk (Kd.R_lower ho0 (below_size (by repeat (first | (with_reducible first | exact HB.out | apply below_alloc | apply pw_below_drewN | apply below_drew1 | refine below_set ?_ GE246.out) | exact HB.out)))); have n1_ := Aside0.mk (blk_below (g := gb246) (o := .cells #[.int .i64 a0_0, .int .i64 a0_1, .int .i64 a0_2, .int .i64 a0_3] 24 (0, 0)) (by (with_reducible repeat (first | refine blk_drewN ?_ _ | refine blk_drew ?_ | refine blk_alloc ?_ _)); exact BK246.out) hb); have n2_ := Aside0.mk (below_step (by repeat (first | (with_reducible first | exact HB.out | apply below_alloc | apply pw_below_drewN | apply below_drew1 | refine below_set ?_ GE246.out) | exact HB.out)) hb); clear BK246; clear HB; have HO250 := n0_; have BK246 := n1_; have HB := n2_; clear n0_ n1_ n2_; (try clear hb); (try clear hb2); (try clear hk); (try clear hi); (try clear ho0)) | ((with_reducible refine gate_callee (f := 16) rfl ?_); refine goesL_ (some 37) rfl rfl Try.func16 (by kernel_rfl) rfl #[.slice A2 l2.length c2] rfl (by (try simp only [List.map_toArray, List.map_cons, List.map_nil]); first | done | rfl | (simp only [List.length_drop, List.length_take]; rfl)) ?_; (with_reducible refine (twoslotlaw07_lent.calls2 _ _ l2 t251 _ ?side1 ?side2 A12.out).mono ?_); (case side1 => repeat (first | exact (Kd.C_below HR2.out HB.out) | (with_reducible refine Kd.C_alloc ?_ _) | (with_reducible refine Kd.C_drewN ?_ _) | (with_reducible refine Kd.C_drew ?_))); (case side2 => exact HC2.out); rintro e w21 ⟨Ao24, co24, rfl, ho0, hb⟩; refine ⟨_, rfl, ?_⟩; have n0_ := Aside0.mk (Kd.R_elder' (by (with_reducible repeat (first | apply Kd.R_alloc | apply Kd.R_drewN | apply Kd.R_drew)); exact HO250.out) (Kd.R_base ho0) hb); have n1_ := Aside0.mk (Kd.R_lower (Kd.R_new' ho0 (Kd.R_lt (by (with_reducible repeat (first | apply Kd.R_alloc | apply Kd.R_drewN | apply Kd.R_drew)); exact HO250.out))) (below_size (by repeat (first | (with_reducible first | exact HB.out | apply below_alloc | apply pw_below_drewN | apply below_drew1 | refine below_set ?_ GE246.out) | exact HB.out)))); have n2_ := Aside0.mk (blk_below (g := gb246) (o := .cells #[.int .i64 a0_0, .int .i64 a0_1, .int .i64 a0_2, .int .i64 a0_3] 24 (0, 0)) (by (with_reducible repeat (first | refine blk_drewN ?_ _ | refine blk_drew ?_ | refine blk_alloc ?_ _)); exact BK246.out) hb); have n3_ := Aside0.mk (below_step (by repeat (first | (with_reducible first | exact HB.out | apply below_alloc | apply pw_below_drewN | apply below_drew1 | refine below_set ?_ GE246.out) | exact HB.out)) hb); clear HO250; clear BK246; clear HB; have HO250 := n0_; have HO253 := n1_; have BK246 := n2_; have HB := n3_; clear n0_ n1_ n2_ n3_; (try clear hb); (try clear hb2); (try clear hk); (try clear hi); (try clear ho0); have hcz22_0 : w21.cell? ⟨gb246, 0, none⟩ = some (.int .i64 a0_0) := (blk_cell BK246.out 0).trans rfl; have hcz22_1 : w21.cell? ⟨gb246, 1, none⟩ = some (.int .i64 a0_1) := (blk_cell BK246.out 1).trans rfl; have hcz22_2 : w21.cell? ⟨gb246, 2, none⟩ = some (.int .i64 a0_2) := (blk_cell BK246.out 2).trans rfl; have hcz22_3 : w21.cell? ⟨gb246, 3, none⟩ = some (.int .i64 a0_3) := (blk_cell BK246.out 3).trans rfl; have hfz22_0 := blk_frozen BK246.out 0; have hfz22_1 := blk_frozen BK246.out 1; have hfz22_2 := blk_frozen BK246.out 2; have hfz22_3 := blk_frozen BK246.out 3) | ((with_reducible refine gate_callee (f := 13) rfl ?_); refine goesL_ (some 42) rfl rfl Try.func13 (by kernel_rfl) rfl #[.agg #[.int .i64 a0_0, .int .i64 a0_1, .int .i64 a0_2, .int .i64 a0_3], .slice Ao23 t248.length co23, .slice Ao24 t251.length co24] rfl (by (try simp only [List.map_toArray, List.map_cons, List.map_nil]); first | done | rfl | (simp only [List.length_drop, List.length_take]; rfl)) ?_; (with_reducible refine (vector_Join.calls kj5 a0_0 a0_1 a0_2 a0_3 _ _ t248 _ _ t251 t254 t257 _ ?side1 ?side2 ?side3 ?side4 A13.out).mono ?_); (case side1 => repeat (first | exact (twoslotlaw07_kept.reads HO250.out).2.2 | (with_reducible refine Kd.C_alloc ?_ _) | (with_reducible refine Kd.C_drewN ?_ _) | (with_reducible refine Kd.C_drew ?_))); (case side2 => exact (twoslotlaw07_kept.reads HO250.out).2.1); (case side3 => repeat (first | exact (twoslotlaw07_kept.reads HO253.out).2.2 | (with_reducible refine Kd.C_alloc ?_ _) | (with_reducible refine Kd.C_drewN ?_ _) | (with_reducible refine Kd.C_drew ?_))); (case side4 => exact (twoslotlaw07_kept.reads HO253.out).2.1); rintro e w25 ⟨v255, rfl, ho0, hb⟩; refine ⟨_, rfl, ?_⟩; have n0_ := Aside0.mk (Kd.R_elder' (by (with_reducible repeat (first | apply Kd.R_alloc | apply Kd.R_drewN | apply Kd.R_drew)); exact HO250.out) (Kd.R_base ho0) hb); have n1_ := Aside0.mk (Kd.R_elder' (by (with_reducible repeat (first | apply Kd.R_alloc | apply Kd.R_drewN | apply Kd.R_drew)); exact HO253.out) (Kd.R_base ho0) hb); have n2_ := Aside0.mk (Kd.R_lower (Kd.R_new' (Kd.R_new' ho0 (Kd.R_lt (by (with_reducible repeat (first | apply Kd.R_alloc | apply Kd.R_drewN | apply Kd.R_drew)); exact HO250.out))) (Kd.R_lt (by (with_reducible repeat (first | apply Kd.R_alloc | apply Kd.R_drewN | apply Kd.R_drew)); exact HO253.out))) (below_size (by repeat (first | (with_reducible first | exact HB.out | apply below_alloc | apply pw_below_drewN | apply below_drew1 | refine below_set ?_ GE246.out) | exact HB.out)))); have n3_ := Aside0.mk (blk_below (g := gb246) (o := .cells #[.int .i64 a0_0, .int .i64 a0_1, .int .i64 a0_2, .int .i64 a0_3] 24 (0, 0)) (by (with_reducible repeat (first | refine blk_drewN ?_ _ | refine blk_drew ?_ | refine blk_alloc ?_ _)); exact BK246.out) hb); have n4_ := Aside0.mk (below_step (by repeat (first | (with_reducible first | exact HB.out | apply below_alloc | apply pw_below_drewN | apply below_drew1 | refine below_set ?_ GE246.out) | exact HB.out)) hb); clear HO250; clear HO253; clear BK246; clear HB; have HO250 := n0_; have HO253 := n1_; have HO256 := n2_; have BK246 := n3_; have HB := n4_; clear n0_ n1_ n2_ n3_ n4_; (try clear hb); (try clear hb2); (try clear hk); (try clear hi); (try clear ho0); have hcz26_0 : w25.cell? ⟨gb246, 0, none⟩ = some (.int .i64 a0_0) := (blk_cell BK246.out 0).trans rfl; have hcz26_1 : w25.cell? ⟨gb246, 1, none⟩ = some (.int .i64 a0_1) := (blk_cell BK246.out 1).trans rfl; have hcz26_2 : w25.cell? ⟨gb246, 2, none⟩ = some (.int .i64 a0_2) := (blk_cell BK246.out 2).trans rfl; have hcz26_3 : w25.cell? ⟨gb246, 3, none⟩ = some (.int .i64 a0_3) := (blk_cell BK246.out 3).trans rfl; have hfz26_0 := blk_frozen BK246.out 0; have hfz26_1 := blk_frozen BK246.out 1; have hfz26_2 := blk_frozen BK246.out 2; have hfz26_3 := blk_frozen BK246.out 3) | ((with_reducible refine gate_callee (f := 14) rfl ?_); refine goesL_ (some 49) rfl rfl Try.func14 (by kernel_rfl) rfl #[.agg #[.int .i64 a0_0, .int .i64 a0_1, .int .i64 a0_2, .int .i64 a0_3], .slice Ao23 t248.length co23, .slice Ao24 t251.length co24] rfl (by (try simp only [List.map_toArray, List.map_cons, List.map_nil]); first | done | rfl | (simp only [List.length_drop, List.length_take]; rfl)) ?_; (with_reducible refine (vector_Below.calls kj5 a0_0 a0_1 a0_2 a0_3 _ _ t248 _ _ t251 t258 t259 _ ?side1 ?side2 ?side3 ?side4 A14.out).mono ?_); (case side1 => repeat (first | exact (twoslotlaw07_kept.reads HO250.out).2.2 | (with_reducible refine Kd.C_alloc ?_ _) | (with_reducible refine Kd.C_drewN ?_ _) | (with_reducible refine Kd.C_drew ?_))); (case side2 => exact (twoslotlaw07_kept.reads HO250.out).2.1); (case side3 => repeat (first | exact (twoslotlaw07_kept.reads HO253.out).2.2 | (with_reducible refine Kd.C_alloc ?_ _) | (with_reducible refine Kd.C_drewN ?_ _) | (with_reducible refine Kd.C_drew ?_))); (case side4 => exact (twoslotlaw07_kept.reads HO253.out).2.1); rintro e w27 ⟨rfl, hb⟩; refine ⟨_, rfl, ?_⟩; have n0_ := Aside0.mk (Kd.R_below (by (with_reducible repeat (first | apply Kd.R_alloc | apply Kd.R_drewN | apply Kd.R_drew)); exact HO250.out) hb); have n1_ := Aside0.mk (Kd.R_below (by (with_reducible repeat (first | apply Kd.R_alloc | apply Kd.R_drewN | apply Kd.R_drew)); exact HO253.out) hb); have n2_ := Aside0.mk (Kd.R_below (by (with_reducible repeat (first | apply Kd.R_alloc | apply Kd.R_drewN | apply Kd.R_drew)); exact HO256.out) hb); have n3_ := Aside0.mk (blk_below (g := gb246) (o := .cells #[.int .i64 a0_0, .int .i64 a0_1, .int .i64 a0_2, .int .i64 a0_3] 24 (0, 0)) (by (with_reducible repeat (first | refine blk_drewN ?_ _ | refine blk_drew ?_ | refine blk_alloc ?_ _)); exact BK246.out) hb); have n4_ := Aside0.mk (below_step (by repeat (first | (with_reducible first | exact HB.out | apply below_alloc | apply pw_below_drewN | apply below_drew1 | refine below_set ?_ GE246.out) | exact HB.out)) hb); clear HO250; clear HO253; clear HO256; clear BK246; clear HB; have HO250 := n0_; have HO253 := n1_; have HO256 := n2_; have BK246 := n3_; have HB := n4_; clear n0_ n1_ n2_ n3_ n4_; (try clear hb); (try clear hb2); (try clear hk); (try clear hi); have hcz28_0 : w27.cell? ⟨gb246, 0, none⟩ = some (.int .i64 a0_0) := (blk_cell BK246.out 0).trans rfl; have hcz28_1 : w27.cell? ⟨gb246, 1, none⟩ = some (.int .i64 a0_1) := (blk_cell BK246.out 1).trans rfl; have hcz28_2 : w27.cell? ⟨gb246, 2, none⟩ = some (.int .i64 a0_2) := (blk_cell BK246.out 2).trans rfl; have hcz28_3 : w27.cell? ⟨gb246, 3, none⟩ = some (.int .i64 a0_3) := (blk_cell BK246.out 3).trans rfl; have hfz28_0 := blk_frozen BK246.out 0; have hfz28_1 := blk_frozen BK246.out 1; have hfz28_2 := blk_frozen BK246.out 2; have hfz28_3 := blk_frozen BK246.out 3) | ((with_reducible refine gate_callee (f := 15) rfl ?_); refine goesL_ (some 56) rfl rfl Try.func15 (by kernel_rfl) rfl #[.agg #[.int .i64 a0_0, .int .i64 a0_1, .int .i64 a0_2, .int .i64 a0_3], .slice Ao23 t248.length co23, .slice Ao24 t251.length co24] rfl (by (try simp only [List.map_toArray, List.map_cons, List.map_nil]); first | done | rfl | (simp only [List.length_drop, List.length_take]; rfl)) ?_; (with_reducible refine (vector_Unlike.calls kj5 a0_0 a0_1 a0_2 a0_3 _ _ t248 _ _ t251 t260 t263 _ ?side1 ?side2 ?side3 ?side4 A15.out).mono ?_); (case side1 => repeat (first | exact (twoslotlaw07_kept.reads HO250.out).2.2 | (with_reducible refine Kd.C_alloc ?_ _) | (with_reducible refine Kd.C_drewN ?_ _) | (with_reducible refine Kd.C_drew ?_))); (case side2 => exact (twoslotlaw07_kept.reads HO250.out).2.1); (case side3 => repeat (first | exact (twoslotlaw07_kept.reads HO253.out).2.2 | (with_reducible refine Kd.C_alloc ?_ _) | (with_reducible refine Kd.C_drewN ?_ _) | (with_reducible refine Kd.C_drew ?_))); (case side4 => exact (twoslotlaw07_kept.reads HO253.out).2.1); rintro e w29 ⟨v261, rfl, ho0, hb⟩; refine ⟨_, rfl, ?_⟩; have n0_ := Aside0.mk (Kd.R_elder' (by (with_reducible repeat (first | apply Kd.R_alloc | apply Kd.R_drewN | apply Kd.R_drew)); exact HO250.out) (Kd.R_base ho0) hb); have n1_ := Aside0.mk (Kd.R_elder' (by (with_reducible repeat (first | apply Kd.R_alloc | apply Kd.R_drewN | apply Kd.R_drew)); exact HO253.out) (Kd.R_base ho0) hb); have n2_ := Aside0.mk (Kd.R_elder' (by (with_reducible repeat (first | apply Kd.R_alloc | apply Kd.R_drewN | apply Kd.R_drew)); exact HO256.out) (Kd.R_base ho0) hb); have n3_ := Aside0.mk (Kd.R_lower (Kd.R_new' (Kd.R_new' (Kd.R_new' ho0 (Kd.R_lt (by (with_reducible repeat (first | apply Kd.R_alloc | apply Kd.R_drewN | apply Kd.R_drew)); exact HO250.out))) (Kd.R_lt (by (with_reducible repeat (first | apply Kd.R_alloc | apply Kd.R_drewN | apply Kd.R_drew)); exact HO253.out))) (Kd.R_lt (by (with_reducible repeat (first | apply Kd.R_alloc | apply Kd.R_drewN | apply Kd.R_drew)); exact HO256.out))) (below_size (by repeat (first | (with_reducible first | exact HB.out | apply below_alloc | apply pw_below_drewN | apply below_drew1 | refine below_set ?_ GE246.out) | exact HB.out)))); have n4_ := Aside0.mk (blk_below (g := gb246) (o := .cells #[.int .i64 a0_0, .int .i64 a0_1, .int .i64 a0_2, .int .i64 a0_3] 24 (0, 0)) (by (with_reducible repeat (first | refine blk_drewN ?_ _ | refine blk_drew ?_ | refine blk_alloc ?_ _)); exact BK246.out) hb); have n5_ := Aside0.mk (below_step (by repeat (first | (with_reducible first | exact HB.out | apply below_alloc | apply pw_below_drewN | apply below_drew1 | refine below_set ?_ GE246.out) | exact HB.out)) hb); clear HO250; clear HO253; clear HO256; clear BK246; clear HB; have HO250 := n0_; have HO253 := n1_; have HO256 := n2_; have HO262 := n3_; have BK246 := n4_; have HB := n5_; clear n0_ n1_ n2_ n3_ n4_ n5_; (try clear hb); (try clear hb2); (try clear hk); (try clear hi); (try clear ho0); have hcz30_0 : w29.cell? ⟨gb246, 0, none⟩ = some (.int .i64 a0_0) := (blk_cell BK246.out 0).trans rfl; have hcz30_1 : w29.cell? ⟨gb246, 1, none⟩ = some (.int .i64 a0_1) := (blk_cell BK246.out 1).trans rfl; have hcz30_2 : w29.cell? ⟨gb246, 2, none⟩ = some (.int .i64 a0_2) := (blk_cell BK246.out 2).trans rfl; have hcz30_3 : w29.cell? ⟨gb246, 3, none⟩ = some (.int .i64 a0_3) := (blk_cell BK246.out 3).trans rfl; have hfz30_0 := blk_frozen BK246.out 0; have hfz30_1 := blk_frozen BK246.out 1; have hfz30_2 := blk_frozen BK246.out 2; have hfz30_3 := blk_frozen BK246.out 3) | ((with_reducible refine gate_callee (f := 25) rfl ?_); refine goesL_ (some 63) rfl rfl Try.func25 (by kernel_rfl) rfl #[.agg #[.int .i64 a0_0, .int .i64 a0_1, .int .i64 a0_2, .int .i64 a0_3], .slice A1 l1.length c1, .slice A2 l2.length c2] rfl (by (try simp only [List.map_toArray, List.map_cons, List.map_nil]); first | done | rfl | (simp only [List.length_drop, List.length_take]; rfl)) ?_; (with_reducible refine (twoslotref07_Join.calls kj5 a0_0 a0_1 a0_2 a0_3 _ _ l1 _ _ l2 t264 t267 _ ?side1 ?side2 ?side3 ?side4 A16.out).mono ?_); (case side1 => repeat (first | exact (Kd.C_below HR1.out HB.out) | (with_reducible refine Kd.C_alloc ?_ _) | (with_reducible refine Kd.C_drewN ?_ _) | (with_reducible refine Kd.C_drew ?_))); (case side2 => exact HC1.out); (case side3 => repeat (first | exact (Kd.C_below HR2.out HB.out) | (with_reducible refine Kd.C_alloc ?_ _) | (with_reducible refine Kd.C_drewN ?_ _) | (with_reducible refine Kd.C_drew ?_))); (case side4 => exact HC2.out); rintro e w31 ⟨v265, rfl, ho0, hb⟩; refine ⟨_, rfl, ?_⟩; have n0_ := Aside0.mk (Kd.R_elder' (by (with_reducible repeat (first | apply Kd.R_alloc | apply Kd.R_drewN | apply Kd.R_drew)); exact HO250.out) (Kd.R_base ho0) hb); have n1_ := Aside0.mk (Kd.R_elder' (by (with_reducible repeat (first | apply Kd.R_alloc | apply Kd.R_drewN | apply Kd.R_drew)); exact HO253.out) (Kd.R_base ho0) hb); have n2_ := Aside0.mk (Kd.R_elder' (by (with_reducible repeat (first | apply Kd.R_alloc | apply Kd.R_drewN | apply Kd.R_drew)); exact HO256.out) (Kd.R_base ho0) hb); have n3_ := Aside0.mk (Kd.R_elder' (by (with_reducible repeat (first | apply Kd.R_alloc | apply Kd.R_drewN | apply Kd.R_drew)); exact HO262.out) (Kd.R_base ho0) hb); have n4_ := Aside0.mk (Kd.R_lower (Kd.R_new' (Kd.R_new' (Kd.R_new' (Kd.R_new' ho0 (Kd.R_lt (by (with_reducible repeat (first | apply Kd.R_alloc | apply Kd.R_drewN | apply Kd.R_drew)); exact HO250.out))) (Kd.R_lt (by (with_reducible repeat (first | apply Kd.R_alloc | apply Kd.R_drewN | apply Kd.R_drew)); exact HO253.out))) (Kd.R_lt (by (with_reducible repeat (first | apply Kd.R_alloc | apply Kd.R_drewN | apply Kd.R_drew)); exact HO256.out))) (Kd.R_lt (by (with_reducible repeat (first | apply Kd.R_alloc | apply Kd.R_drewN | apply Kd.R_drew)); exact HO262.out))) (below_size (by repeat (first | (with_reducible first | exact HB.out | apply below_alloc | apply pw_below_drewN | apply below_drew1 | refine below_set ?_ GE246.out) | exact HB.out)))); have n5_ := Aside0.mk (blk_below (g := gb246) (o := .cells #[.int .i64 a0_0, .int .i64 a0_1, .int .i64 a0_2, .int .i64 a0_3] 24 (0, 0)) (by (with_reducible repeat (first | refine blk_drewN ?_ _ | refine blk_drew ?_ | refine blk_alloc ?_ _)); exact BK246.out) hb); have n6_ := Aside0.mk (below_step (by repeat (first | (with_reducible first | exact HB.out | apply below_alloc | apply pw_below_drewN | apply below_drew1 | refine below_set ?_ GE246.out) | exact HB.out)) hb); clear HO250; clear HO253; clear HO256; clear HO262; clear BK246; clear HB; have HO250 := n0_; have HO253 := n1_; have HO256 := n2_; have HO262 := n3_; have HO266 := n4_; have BK246 := n5_; have HB := n6_; clear n0_ n1_ n2_ n3_ n4_ n5_ n6_; (try clear hb); (try clear hb2); (try clear hk); (try clear hi); (try clear ho0); have hcz32_0 : w31.cell? ⟨gb246, 0, none⟩ = some (.int .i64 a0_0) := (blk_cell BK246.out 0).trans rfl; have hcz32_1 : w31.cell? ⟨gb246, 1, none⟩ = some (.int .i64 a0_1) := (blk_cell BK246.out 1).trans rfl; have hcz32_2 : w31.cell? ⟨gb246, 2, none⟩ = some (.int .i64 a0_2) := (blk_cell BK246.out 2).trans rfl; have hcz32_3 : w31.cell? ⟨gb246, 3, none⟩ = some (.int .i64 a0_3) := (blk_cell BK246.out 3).trans rfl; have hfz32_0 := blk_frozen BK246.out 0; have hfz32_1 := blk_frozen BK246.out 1; have hfz32_2 := blk_frozen BK246.out 2; have hfz32_3 := blk_frozen BK246.out 3) | ((with_reducible refine gate_callee (f := 26) rfl ?_); refine goesL_ (some 70) rfl rfl Try.func26 (by kernel_rfl) rfl #[.agg #[.int .i64 a0_0, .int .i64 a0_1, .int .i64 a0_2, .int .i64 a0_3], .slice A1 l1.length c1, .slice A2 l2.length c2] rfl (by (try simp only [List.map_toArray, List.map_cons, List.map_nil]); first | done | rfl | (simp only [List.length_drop, List.length_take]; rfl)) ?_; (with_reducible refine (twoslotref07_Below.calls kj5 a0_0 a0_1 a0_2 a0_3 _ _ l1 _ _ l2 t268 t269 _ ?side1 ?side2 ?side3 ?side4 A17.out).mono ?_); (case side1 => repeat (first | exact (Kd.C_below HR1.out HB.out) | (with_reducible refine Kd.C_alloc ?_ _) | (with_reducible refine Kd.C_drewN ?_ _) | (with_reducible refine Kd.C_drew ?_))); (case side2 => exact HC1.out); (case side3 => repeat (first | exact (Kd.C_below HR2.out HB.out) | (with_reducible refine Kd.C_alloc ?_ _) | (with_reducible refine Kd.C_drewN ?_ _) | (with_reducible refine Kd.C_drew ?_))); (case side4 => exact HC2.out); rintro e w33 ⟨rfl, hb⟩; refine ⟨_, rfl, ?_⟩; have n0_ := Aside0.mk (Kd.R_below (by (with_reducible repeat (first | apply Kd.R_alloc | apply Kd.R_drewN | apply Kd.R_drew)); exact HO250.out) hb); have n1_ := Aside0.mk (Kd.R_below (by (with_reducible repeat (first | apply Kd.R_alloc | apply Kd.R_drewN | apply Kd.R_drew)); exact HO253.out) hb); have n2_ := Aside0.mk (Kd.R_below (by (with_reducible repeat (first | apply Kd.R_alloc | apply Kd.R_drewN | apply Kd.R_drew)); exact HO256.out) hb); have n3_ := Aside0.mk (Kd.R_below (by (with_reducible repeat (first | apply Kd.R_alloc | apply Kd.R_drewN | apply Kd.R_drew)); exact HO262.out) hb); have n4_ := Aside0.mk (Kd.R_below (by (with_reducible repeat (first | apply Kd.R_alloc | apply Kd.R_drewN | apply Kd.R_drew)); exact HO266.out) hb); have n5_ := Aside0.mk (blk_below (g := gb246) (o := .cells #[.int .i64 a0_0, .int .i64 a0_1, .int .i64 a0_2, .int .i64 a0_3] 24 (0, 0)) (by (with_reducible repeat (first | refine blk_drewN ?_ _ | refine blk_drew ?_ | refine blk_alloc ?_ _)); exact BK246.out) hb); have n6_ := Aside0.mk (below_step (by repeat (first | (with_reducible first | exact HB.out | apply below_alloc | apply pw_below_drewN | apply below_drew1 | refine below_set ?_ GE246.out) | exact HB.out)) hb); clear HO250; clear HO253; clear HO256; clear HO262; clear HO266; clear BK246; clear HB; have HO250 := n0_; have HO253 := n1_; have HO256 := n2_; have HO262 := n3_; have HO266 := n4_; have BK246 := n5_; have HB := n6_; clear n0_ n1_ n2_ n3_ n4_ n5_ n6_; (try clear hb); (try clear hb2); (try clear hk); (try clear hi); have hcz34_0 : w33.cell? ⟨gb246, 0, none⟩ = some (.int .i64 a0_0) := (blk_cell BK246.out 0).trans rfl; have hcz34_1 : w33.cell? ⟨gb246, 1, none⟩ = some (.int .i64 a0_1) := (blk_cell BK246.out 1).trans rfl; have hcz34_2 : w33.cell? ⟨gb246, 2, none⟩ = some (.int .i64 a0_2) := (blk_cell BK246.out 2).trans rfl; have hcz34_3 : w33.cell? ⟨gb246, 3, none⟩ = some (.int .i64 a0_3) := (blk_cell BK246.out 3).trans rfl; have hfz34_0 := blk_frozen BK246.out 0; have hfz34_1 := blk_frozen BK246.out 1; have hfz34_2 := blk_frozen BK246.out 2; have hfz34_3 := blk_frozen BK246.out 3) | ((with_reducible refine gate_callee (f := 27) rfl ?_); refine goesL_ (some 77) rfl rfl Try.func27 (by kernel_rfl) rfl #[.agg #[.int .i64 a0_0, .int .i64 a0_1, .int .i64 a0_2, .int .i64 a0_3], .slice A1 l1.length c1, .slice A2 l2.length c2] rfl (by (try simp only [List.map_toArray, List.map_cons, List.map_nil]); first | done | rfl | (simp only [List.length_drop, List.length_take]; rfl)) ?_; (with_reducible refine (twoslotref07_Unlike.calls kj5 a0_0 a0_1 a0_2 a0_3 _ _ l1 _ _ l2 t270 t273 _ ?side1 ?side2 ?side3 ?side4 A18.out).mono ?_); (case side1 => repeat (first | exact (Kd.C_below HR1.out HB.out) | (with_reducible refine Kd.C_alloc ?_ _) | (with_reducible refine Kd.C_drewN ?_ _) | (with_reducible refine Kd.C_drew ?_))); (case side2 => exact HC1.out); (case side3 => repeat (first | exact (Kd.C_below HR2.out HB.out) | (with_reducible refine Kd.C_alloc ?_ _) | (with_reducible refine Kd.C_drewN ?_ _) | (with_reducible refine Kd.C_drew ?_))); (case side4 => exact HC2.out); rintro e w35 ⟨v271, rfl, ho0, hb⟩; refine ⟨_, rfl, ?_⟩; have n0_ := Aside0.mk (Kd.R_elder' (by (with_reducible repeat (first | apply Kd.R_alloc | apply Kd.R_drewN | apply Kd.R_drew)); exact HO250.out) (Kd.R_base ho0) hb); have n1_ := Aside0.mk (Kd.R_elder' (by (with_reducible repeat (first | apply Kd.R_alloc | apply Kd.R_drewN | apply Kd.R_drew)); exact HO253.out) (Kd.R_base ho0) hb); have n2_ := Aside0.mk (Kd.R_elder' (by (with_reducible repeat (first | apply Kd.R_alloc | apply Kd.R_drewN | apply Kd.R_drew)); exact HO256.out) (Kd.R_base ho0) hb); have n3_ := Aside0.mk (Kd.R_elder' (by (with_reducible repeat (first | apply Kd.R_alloc | apply Kd.R_drewN | apply Kd.R_drew)); exact HO262.out) (Kd.R_base ho0) hb); have n4_ := Aside0.mk (Kd.R_elder' (by (with_reducible repeat (first | apply Kd.R_alloc | apply Kd.R_drewN | apply Kd.R_drew)); exact HO266.out) (Kd.R_base ho0) hb); have n5_ := Aside0.mk (Kd.R_lower (Kd.R_new' (Kd.R_new' (Kd.R_new' (Kd.R_new' (Kd.R_new' ho0 (Kd.R_lt (by (with_reducible repeat (first | apply Kd.R_alloc | apply Kd.R_drewN | apply Kd.R_drew)); exact HO250.out))) (Kd.R_lt (by (with_reducible repeat (first | apply Kd.R_alloc | apply Kd.R_drewN | apply Kd.R_drew)); exact HO253.out))) (Kd.R_lt (by (with_reducible repeat (first | apply Kd.R_alloc | apply Kd.R_drewN | apply Kd.R_drew)); exact HO256.out))) (Kd.R_lt (by (with_reducible repeat (first | apply Kd.R_alloc | apply Kd.R_drewN | apply Kd.R_drew)); exact HO262.out))) (Kd.R_lt (by (with_reducible repeat (first | apply Kd.R_alloc | apply Kd.R_drewN | apply Kd.R_drew)); exact HO266.out))) (below_size (by repeat (first | (with_reducible first | exact HB.out | apply below_alloc | apply pw_below_drewN | apply below_drew1 | refine below_set ?_ GE246.out) | exact HB.out)))); have n6_ := Aside0.mk (blk_below (g := gb246) (o := .cells #[.int .i64 a0_0, .int .i64 a0_1, .int .i64 a0_2, .int .i64 a0_3] 24 (0, 0)) (by (with_reducible repeat (first | refine blk_drewN ?_ _ | refine blk_drew ?_ | refine blk_alloc ?_ _)); exact BK246.out) hb); have n7_ := Aside0.mk (below_step (by repeat (first | (with_reducible first | exact HB.out | apply below_alloc | apply pw_below_drewN | apply below_drew1 | refine below_set ?_ GE246.out) | exact HB.out)) hb); clear HO250; clear HO253; clear HO256; clear HO262; clear HO266; clear BK246; clear HB; have HO250 := n0_; have HO253 := n1_; have HO256 := n2_; have HO262 := n3_; have HO266 := n4_; have HO272 := n5_; have BK246 := n6_; have HB := n7_; clear n0_ n1_ n2_ n3_ n4_ n5_ n6_ n7_; (try clear hb); (try clear hb2); (try clear hk); (try clear hi); (try clear ho0)))
          (try simp only [Act.put, List.setIfInBounds_toArray, List.set_cons_zero, List.set_cons_succ])
          go_cut [22] (fun v22 wc => ∃ (kq : Nat) (x22_18 : Bool), v22 = .bool x22_18 ∧ Aside0 (twoslotlaw07_VectorTwos.j1 kq l1 l2 t248 t251 t254 t257 t259 t260 t263 t267 t269 t273 x22_18 = some r) ∧ Aside0 (kq ≤ kj5) ∧ Aside0 (Kd.R (Kd.int .i64) 3 wc w.heap.size (fun k_ => some k_ ≠ ((.slice Ao24 (t251.length + 1) co24) : Value).ownBlock ∧ some k_ ≠ (v255 : Value).ownBlock ∧ some k_ ≠ (v261 : Value).ownBlock) (.slice Ao23 (t248.length + 1) co23) (t248 ++ [77])) ∧ Aside0 (Kd.R (Kd.int .i64) 3 wc w.heap.size (fun k_ => some k_ ≠ ((.slice Ao23 (t248.length + 1) co23) : Value).ownBlock ∧ some k_ ≠ (v255 : Value).ownBlock ∧ some k_ ≠ (v261 : Value).ownBlock) (.slice Ao24 (t251.length + 1) co24) (t251 ++ [77])) ∧ Aside0 (Kd.R (Kd.int .i64) 3 wc w.heap.size (fun k_ => some k_ ≠ ((.slice Ao23 (t248.length + 1) co23) : Value).ownBlock ∧ some k_ ≠ ((.slice Ao24 (t251.length + 1) co24) : Value).ownBlock ∧ some k_ ≠ (v261 : Value).ownBlock) v255 t254) ∧ Aside0 (Kd.R (Kd.int .i64) 3 wc w.heap.size (fun k_ => some k_ ≠ ((.slice Ao23 (t248.length + 1) co23) : Value).ownBlock ∧ some k_ ≠ ((.slice Ao24 (t251.length + 1) co24) : Value).ownBlock ∧ some k_ ≠ (v255 : Value).ownBlock) v261 t260) ∧ Aside0 (wc.heap[gb246]? = some (.cells #[.int .i64 a0_0, .int .i64 a0_1, .int .i64 a0_2, .int .i64 a0_3] 24 (0, 0))) ∧ Aside0 (Below w.heap.size w wc))
          case first =>
            have H := HC19.out
            clear HC19
            replace H := Option.bind_eq_some_iff.mp H
            obtain ⟨t274, A360, H⟩ := H
            replace H : (if t274 = true then (if (t258 == t268) = true then ((twoslotref07_Same.f kj5 t260 t270).bind fun t275 => (twoslotlaw07_VectorTwos.j1 kj5 l1 l2 t248 t251 t254 t257 t259 t260 t263 t267 t269 t273 t275)) else (twoslotlaw07_VectorTwos.j1 kj5 l1 l2 t248 t251 t254 t257 t259 t260 t263 t267 t269 t273 false)) else (twoslotlaw07_VectorTwos.j1 kj5 l1 l2 t248 t251 t254 t257 t259 t260 t263 t267 t269 t273 false)) = some r := H
            have A36 := Aside0.mk A360
            clear A360
            by_cases c37 : t274 = true
            · subst c37
              have H1 : (if (t258 == t268) = true then ((twoslotref07_Same.f kj5 t260 t270).bind fun t275 => (twoslotlaw07_VectorTwos.j1 kj5 l1 l2 t248 t251 t254 t257 t259 t260 t263 t267 t269 t273 t275)) else (twoslotlaw07_VectorTwos.j1 kj5 l1 l2 t248 t251 t254 t257 t259 t260 t263 t267 t269 t273 false)) = some r := by rw [if_pos rfl] at H; exact H
              clear H
              have H := H1
              clear H1
              by_cases c38 : (t258 == t268) = true
              · rw [if_pos c38] at H
                have c38b0 : (t258 == t268) = true := c38
                (try (have c38b1 : decide (t258 = t268) = true := by simpa using c38))
                (try (have c38b2 : (t258 == t268) = true := by simpa using c38))
                clear c38
                (first | rw [c38b0] | (simp only [i64_w, i32_w]; rw [c38b0]) | skip)
                replace H := Option.bind_eq_some_iff.mp H
                obtain ⟨t275, A390, H⟩ := H
                replace H : (twoslotlaw07_VectorTwos.j1 kj5 l1 l2 t248 t251 t254 t257 t259 t260 t263 t267 t269 t273 t275) = some r := H
                have A39 := Aside0.mk A390
                clear A390
                have H' := Aside0.mk H
                clear H
                obtain ⟨Ao40, co40, eo40⟩ := Kd.R_slice HO256.out
                subst eo40
                obtain ⟨Ao41, co41, eo41⟩ := Kd.R_slice HO266.out
                subst eo41
                go_wp2_with (first | ((with_reducible refine gate_callee (f := 20) rfl ?_); refine goesL_ (some 82) rfl rfl Try.func20 (by kernel_rfl) rfl #[.slice Ao40 t254.length co40, .slice Ao41 t264.length co41] rfl (by (try simp only [List.map_toArray, List.map_cons, List.map_nil]); first | done | rfl | (simp only [List.length_drop, List.length_take]; rfl)) ?_; (with_reducible refine (twoslotref07_Same.calls kj5 _ _ t254 _ _ t264 true _ ?side1 ?side2 ?side3 ?side4 A36.out).mono ?_); (case side1 => repeat (first | exact (Kd.R_reads' HO256.out).2.2 | (with_reducible refine Kd.C_alloc ?_ _) | (with_reducible refine Kd.C_drewN ?_ _) | (with_reducible refine Kd.C_drew ?_))); (case side2 => exact (Kd.R_reads' HO256.out).2.1); (case side3 => repeat (first | exact (Kd.R_reads' HO266.out).2.2 | (with_reducible refine Kd.C_alloc ?_ _) | (with_reducible refine Kd.C_drewN ?_ _) | (with_reducible refine Kd.C_drew ?_))); (case side4 => exact (Kd.R_reads' HO266.out).2.1); rintro e w' ⟨rfl, ⟨nd, rfl⟩⟩; refine ⟨_, rfl, ?_⟩; obtain ⟨Ao42, co42, eo42⟩ := Kd.R_slice HO262.out; subst eo42; obtain ⟨Ao43, co43, eo43⟩ := Kd.R_slice HO272.out; subst eo43) | (go_at_call 20; (with_reducible refine (twoslotref07_Same.calls kj5 _ _ t260 _ _ t270 t275 _ ?side1 ?side2 ?side3 ?side4 A39.out).mono ?_); (case side1 => repeat (first | exact (Kd.R_reads' HO262.out).2.2 | (with_reducible refine Kd.C_alloc ?_ _) | (with_reducible refine Kd.C_drewN ?_ _) | (with_reducible refine Kd.C_drew ?_))); (case side2 => exact (Kd.R_reads' HO262.out).2.1); (case side3 => repeat (first | exact (Kd.R_reads' HO272.out).2.2 | (with_reducible refine Kd.C_alloc ?_ _) | (with_reducible refine Kd.C_drewN ?_ _) | (with_reducible refine Kd.C_drew ?_))); (case side4 => exact (Kd.R_reads' HO272.out).2.1); rintro e w' ⟨rfl, ⟨nd, rfl⟩⟩))
                go_meet
                case rel => exact ⟨_, (t275), (by first | rfl | (simp; done) | (simp [*]; done)), H', ⟨by have := HJ5.out; first | omega | exact Nat.le_refl _⟩, ⟨by (with_reducible repeat (first | apply Kd.R_alloc | apply Kd.R_drewN | apply Kd.R_drew)); exact Kd.R_mono HO250.out (fun _ hk => ⟨hk.1.1.1.1.2, ⟨hk.1.1.1.2, hk.1.1.2⟩⟩)⟩, ⟨by (with_reducible repeat (first | apply Kd.R_alloc | apply Kd.R_drewN | apply Kd.R_drew)); exact Kd.R_mono HO253.out (fun _ hk => ⟨hk.1.1.1.1.2, ⟨hk.1.1.1.2, hk.1.1.2⟩⟩)⟩, ⟨by (with_reducible repeat (first | apply Kd.R_alloc | apply Kd.R_drewN | apply Kd.R_drew)); exact Kd.R_mono HO256.out (fun _ hk => ⟨hk.1.1.1.1.2, ⟨hk.1.1.1.2, hk.1.1.2⟩⟩)⟩, ⟨by (with_reducible repeat (first | apply Kd.R_alloc | apply Kd.R_drewN | apply Kd.R_drew)); exact Kd.R_mono HO262.out (fun _ hk => ⟨hk.1.1.1.1.2, ⟨hk.1.1.1.2, hk.1.1.2⟩⟩)⟩, ⟨by (with_reducible repeat (first | refine blk_drewN ?_ _ | refine blk_drew ?_ | refine blk_alloc ?_ _)); exact BK246.out⟩, ⟨by repeat (first | (with_reducible first | exact HB.out | apply below_alloc | apply pw_below_drewN | apply below_drew1 | refine below_set ?_ GE246.out) | exact HB.out)⟩⟩
              · rw [if_neg c38] at H
                have c38b0 : (t258 == t268) = false := by simpa using c38
                (try (have c38b1 : decide (t258 = t268) = false := by simpa using c38))
                (try (have c38b2 : (t258 == t268) = false := by simpa using c38))
                (try (have c38b3 : ¬ (t258 = t268) := by simpa using c38))
                clear c38
                (first | rw [c38b0] | (simp only [i64_w, i32_w]; rw [c38b0]) | skip)
                have H' := Aside0.mk H
                clear H
                obtain ⟨Ao44, co44, eo44⟩ := Kd.R_slice HO256.out
                subst eo44
                obtain ⟨Ao45, co45, eo45⟩ := Kd.R_slice HO266.out
                subst eo45
                go_wp2_with (first | ((with_reducible refine gate_callee (f := 20) rfl ?_); refine goesL_ (some 82) rfl rfl Try.func20 (by kernel_rfl) rfl #[.slice Ao44 t254.length co44, .slice Ao45 t264.length co45] rfl (by (try simp only [List.map_toArray, List.map_cons, List.map_nil]); first | done | rfl | (simp only [List.length_drop, List.length_take]; rfl)) ?_; (with_reducible refine (twoslotref07_Same.calls kj5 _ _ t254 _ _ t264 true _ ?side1 ?side2 ?side3 ?side4 A36.out).mono ?_); (case side1 => repeat (first | exact (Kd.R_reads' HO256.out).2.2 | (with_reducible refine Kd.C_alloc ?_ _) | (with_reducible refine Kd.C_drewN ?_ _) | (with_reducible refine Kd.C_drew ?_))); (case side2 => exact (Kd.R_reads' HO256.out).2.1); (case side3 => repeat (first | exact (Kd.R_reads' HO266.out).2.2 | (with_reducible refine Kd.C_alloc ?_ _) | (with_reducible refine Kd.C_drewN ?_ _) | (with_reducible refine Kd.C_drew ?_))); (case side4 => exact (Kd.R_reads' HO266.out).2.1); rintro e w' ⟨rfl, ⟨nd, rfl⟩⟩; refine ⟨_, rfl, ?_⟩))
                go_meet
                case rel => exact ⟨_, (false), (by first | rfl | (simp; done) | (simp [*]; done)), H', ⟨by have := HJ5.out; first | omega | exact Nat.le_refl _⟩, ⟨by (with_reducible repeat (first | apply Kd.R_alloc | apply Kd.R_drewN | apply Kd.R_drew)); exact Kd.R_mono HO250.out (fun _ hk => ⟨hk.1.1.1.1.2, ⟨hk.1.1.1.2, hk.1.1.2⟩⟩)⟩, ⟨by (with_reducible repeat (first | apply Kd.R_alloc | apply Kd.R_drewN | apply Kd.R_drew)); exact Kd.R_mono HO253.out (fun _ hk => ⟨hk.1.1.1.1.2, ⟨hk.1.1.1.2, hk.1.1.2⟩⟩)⟩, ⟨by (with_reducible repeat (first | apply Kd.R_alloc | apply Kd.R_drewN | apply Kd.R_drew)); exact Kd.R_mono HO256.out (fun _ hk => ⟨hk.1.1.1.1.2, ⟨hk.1.1.1.2, hk.1.1.2⟩⟩)⟩, ⟨by (with_reducible repeat (first | apply Kd.R_alloc | apply Kd.R_drewN | apply Kd.R_drew)); exact Kd.R_mono HO262.out (fun _ hk => ⟨hk.1.1.1.1.2, ⟨hk.1.1.1.2, hk.1.1.2⟩⟩)⟩, ⟨by (with_reducible repeat (first | refine blk_drewN ?_ _ | refine blk_drew ?_ | refine blk_alloc ?_ _)); exact BK246.out⟩, ⟨by repeat (first | (with_reducible first | exact HB.out | apply below_alloc | apply pw_below_drewN | apply below_drew1 | refine below_set ?_ GE246.out) | exact HB.out)⟩⟩
            · replace c37 := Bool.eq_false_iff.mpr c37
              subst c37
              have H1 : (twoslotlaw07_VectorTwos.j1 kj5 l1 l2 t248 t251 t254 t257 t259 t260 t263 t267 t269 t273 false) = some r := by rw [if_neg (show ¬ (false = true) by decide)] at H; exact H
              clear H
              have H := H1
              clear H1
              have H' := Aside0.mk H
              clear H
              obtain ⟨Ao46, co46, eo46⟩ := Kd.R_slice HO256.out
              subst eo46
              obtain ⟨Ao47, co47, eo47⟩ := Kd.R_slice HO266.out
              subst eo47
              go_wp2_with (first | ((with_reducible refine gate_callee (f := 20) rfl ?_); refine goesL_ (some 82) rfl rfl Try.func20 (by kernel_rfl) rfl #[.slice Ao46 t254.length co46, .slice Ao47 t264.length co47] rfl (by (try simp only [List.map_toArray, List.map_cons, List.map_nil]); first | done | rfl | (simp only [List.length_drop, List.length_take]; rfl)) ?_; (with_reducible refine (twoslotref07_Same.calls kj5 _ _ t254 _ _ t264 false _ ?side1 ?side2 ?side3 ?side4 A36.out).mono ?_); (case side1 => repeat (first | exact (Kd.R_reads' HO256.out).2.2 | (with_reducible refine Kd.C_alloc ?_ _) | (with_reducible refine Kd.C_drewN ?_ _) | (with_reducible refine Kd.C_drew ?_))); (case side2 => exact (Kd.R_reads' HO256.out).2.1); (case side3 => repeat (first | exact (Kd.R_reads' HO266.out).2.2 | (with_reducible refine Kd.C_alloc ?_ _) | (with_reducible refine Kd.C_drewN ?_ _) | (with_reducible refine Kd.C_drew ?_))); (case side4 => exact (Kd.R_reads' HO266.out).2.1); rintro e w' ⟨rfl, ⟨nd, rfl⟩⟩; refine ⟨_, rfl, ?_⟩))
              go_meet
              case rel => exact ⟨_, (false), (by first | rfl | (simp; done) | (simp [*]; done)), H', ⟨by have := HJ5.out; first | omega | exact Nat.le_refl _⟩, ⟨by (with_reducible repeat (first | apply Kd.R_alloc | apply Kd.R_drewN | apply Kd.R_drew)); exact Kd.R_mono HO250.out (fun _ hk => ⟨hk.1.1.1.1.2, ⟨hk.1.1.1.2, hk.1.1.2⟩⟩)⟩, ⟨by (with_reducible repeat (first | apply Kd.R_alloc | apply Kd.R_drewN | apply Kd.R_drew)); exact Kd.R_mono HO253.out (fun _ hk => ⟨hk.1.1.1.1.2, ⟨hk.1.1.1.2, hk.1.1.2⟩⟩)⟩, ⟨by (with_reducible repeat (first | apply Kd.R_alloc | apply Kd.R_drewN | apply Kd.R_drew)); exact Kd.R_mono HO256.out (fun _ hk => ⟨hk.1.1.1.1.2, ⟨hk.1.1.1.2, hk.1.1.2⟩⟩)⟩, ⟨by (with_reducible repeat (first | apply Kd.R_alloc | apply Kd.R_drewN | apply Kd.R_drew)); exact Kd.R_mono HO262.out (fun _ hk => ⟨hk.1.1.1.1.2, ⟨hk.1.1.1.2, hk.1.1.2⟩⟩)⟩, ⟨by (with_reducible repeat (first | refine blk_drewN ?_ _ | refine blk_drew ?_ | refine blk_alloc ?_ _)); exact BK246.out⟩, ⟨by repeat (first | (with_reducible first | exact HB.out | apply below_alloc | apply pw_below_drewN | apply below_drew1 | refine below_set ?_ GE246.out) | exact HB.out)⟩⟩
          case rest =>
            clear HC19
            try clear c1
            try clear c2
            try clear p2
            try clear c3
            try clear c5
            try clear c8
            try clear c9
            try clear c9b0
            try clear c9b1
            try clear c10
            try clear c13
            try clear c14
            try clear c15
            try clear c16
            try clear c20
            try clear c25
            try clear c26
            try clear c27
            try clear c37
            try clear c38
            try clear c38b0
            try clear c38b1
            try clear c38b2
            try clear hcz22_0
            try clear hcz22_1
            try clear hcz22_2
            try clear hcz22_3
            try clear hcz26_0
            try clear hcz26_1
            try clear hcz26_2
            try clear hcz26_3
            try clear hcz28_0
            try clear hcz28_1
            try clear hcz28_2
            try clear hcz28_3
            try clear hcz30_0
            try clear hcz30_1
            try clear hcz30_2
            try clear hcz30_3
            try clear hcz32_0
            try clear hcz32_1
            try clear hcz32_2
            try clear hcz32_3
            try clear hcz34_0
            try clear hcz34_1
            try clear hcz34_2
            try clear hcz34_3
            try clear hfz22_0
            try clear hfz22_1
            try clear hfz22_2
            try clear hfz22_3
            try clear hfz26_0
            try clear hfz26_1
            try clear hfz26_2
            try clear hfz26_3
            try clear hfz28_0
            try clear hfz28_1
            try clear hfz28_2
            try clear hfz28_3
            try clear hfz30_0
            try clear hfz30_1
            try clear hfz30_2
            try clear hfz30_3
            try clear hfz32_0
            try clear hfz32_1
            try clear hfz32_2
            try clear hfz32_3
            try clear hfz34_0
            try clear hfz34_1
            try clear hfz34_2
            try clear hfz34_3
            try clear p2
            obtain ⟨kq, x22_18, rfl, HA, HJ18, HO_8, HO_9, HO_10, HO_14, BK246, HB⟩ := hcut
            cases kq with
            | zero => exact absurd HA.out (by simp [twoslotlaw07_VectorTwos.j1])
            | succ kj18 =>
              have H := HA.out
              clear HA
              simp only [twoslotlaw07_VectorTwos.j1] at H
              replace H := Option.bind_eq_some_iff.mp H
              obtain ⟨t276, A480, H⟩ := H
              replace H : ((twoslotlaw07_spoil.f kj18 t260).bind fun t277 => (if x22_18 = true then ((twoslotlaw07_kept.f kj18 t248 l1).bind fun t278 => (if t278 = true then ((twoslotlaw07_kept.f kj18 t251 l2).bind fun t279 => (if t279 = true then (if t257 = t267 then (if t259 = t269 then (some (t263 == t273)) else (none)) else (none)) else (none))) else (none))) else (none))) = some r := H
              have A48 := Aside0.mk A480
              clear A480
              replace H := Option.bind_eq_some_iff.mp H
              obtain ⟨t277, A490, H⟩ := H
              replace H : (if x22_18 = true then ((twoslotlaw07_kept.f kj18 t248 l1).bind fun t278 => (if t278 = true then ((twoslotlaw07_kept.f kj18 t251 l2).bind fun t279 => (if t279 = true then (if t257 = t267 then (if t259 = t269 then (some (t263 == t273)) else (none)) else (none)) else (none))) else (none))) else (none)) = some r := H
              have A49 := Aside0.mk A490
              clear A490
              by_cases c50 : x22_18 = true
              · subst c50
                have H1 : ((twoslotlaw07_kept.f kj18 t248 l1).bind fun t278 => (if t278 = true then ((twoslotlaw07_kept.f kj18 t251 l2).bind fun t279 => (if t279 = true then (if t257 = t267 then (if t259 = t269 then (some (t263 == t273)) else (none)) else (none)) else (none))) else (none))) = some r := by rw [if_pos rfl] at H; exact H
                clear H
                have H := H1
                clear H1
                replace H := Option.bind_eq_some_iff.mp H
                obtain ⟨t278, A510, H⟩ := H
                replace H : (if t278 = true then ((twoslotlaw07_kept.f kj18 t251 l2).bind fun t279 => (if t279 = true then (if t257 = t267 then (if t259 = t269 then (some (t263 == t273)) else (none)) else (none)) else (none))) else (none)) = some r := H
                have A51 := Aside0.mk A510
                clear A510
                by_cases c52 : t278 = true
                · subst c52
                  have H1 : ((twoslotlaw07_kept.f kj18 t251 l2).bind fun t279 => (if t279 = true then (if t257 = t267 then (if t259 = t269 then (some (t263 == t273)) else (none)) else (none)) else (none))) = some r := by rw [if_pos rfl] at H; exact H
                  clear H
                  have H := H1
                  clear H1
                  replace H := Option.bind_eq_some_iff.mp H
                  obtain ⟨t279, A530, H⟩ := H
                  replace H : (if t279 = true then (if t257 = t267 then (if t259 = t269 then (some (t263 == t273)) else (none)) else (none)) else (none)) = some r := H
                  have A53 := Aside0.mk A530
                  clear A530
                  by_cases c54 : t279 = true
                  · subst c54
                    have H1 : (if t257 = t267 then (if t259 = t269 then (some (t263 == t273)) else (none)) else (none)) = some r := by rw [if_pos rfl] at H; exact H
                    clear H
                    have H := H1
                    clear H1
                    by_cases c55 : t257 = t267
                    · rw [if_pos c55] at H
                      have c55b0 : (t257 == t267) = true := beq_iff_eq.mpr c55
                      have c55b1 : (t257 != t267) = false := bne_eq_false_iff_eq.mpr c55
                      clear c55
                      by_cases c56 : t259 = t269
                      · rw [if_pos c56] at H
                        have c56b0 : (t259 == t269) = true := beq_iff_eq.mpr c56
                        have c56b1 : (t259 != t269) = false := bne_eq_false_iff_eq.mpr c56
                        clear c56
                        obtain rfl := Option.some.inj H
                        obtain ⟨Ao57, co57, eo57⟩ := Kd.R_slice HO_10.out
                        subst eo57
                        go_wp2_with (first | ((with_reducible refine gate_callee (f := 23) rfl ?_); refine goesL_ (some 94) rfl rfl Try.func23 (by kernel_rfl) rfl #[.slice Ao57 t254.length co57] rfl (by (try simp only [List.map_toArray, List.map_cons, List.map_nil]); first | done | rfl | (simp only [List.length_drop, List.length_take]; rfl)) ?_; (with_reducible refine (twoslotlaw07_spoil.calls kj18 (fun k_ => some k_ = (.slice Ao57 t254.length co57 : Value).ownBlock) (.slice Ao57 t254.length co57) t254 t276 w _ ?side1 ?side2 A48.out).mono ?_); (case side1 => repeat (first | (with_reducible first | exact HB.out | apply below_alloc | apply pw_below_drewN | apply below_drew1 | refine below_set ?_ GE246.out) | exact HB.out)); (case side2 => exact Kd.R_tight rfl HO_10.out); rintro e w58 ⟨rfl, hy0, hb, hkp⟩; refine ⟨_, rfl, ?_⟩; have n0_ := Aside0.mk (Kd.R_mono (ok' := fun k_ => some k_ ≠ (.slice Ao24 (t251.length + 1) co24 : Value).ownBlock ∧ some k_ ≠ (.slice Ao57 t254.length co57 : Value).ownBlock ∧ some k_ ≠ (v261 : Value).ownBlock) (Kd.R_keptB (HO_8.out) hkp (fun k_ hk_ hs_ => (hk_.2.1) hs_)) (fun k_ hk_ => ⟨hk_.1.1, hk_.1.2.1, hk_.1.2.2⟩)); have n1_ := Aside0.mk (Kd.R_mono (ok' := fun k_ => some k_ ≠ (.slice Ao23 (t248.length + 1) co23 : Value).ownBlock ∧ some k_ ≠ (.slice Ao57 t254.length co57 : Value).ownBlock ∧ some k_ ≠ (v261 : Value).ownBlock) (Kd.R_keptB (HO_9.out) hkp (fun k_ hk_ hs_ => (hk_.2.1) hs_)) (fun k_ hk_ => ⟨hk_.1.1, hk_.1.2.1, hk_.1.2.2⟩)); have n2_ := Aside0.mk (Kd.R_reok rfl hy0 (fun k_ e_ => HO_10.out.1 k_ e_)); have n3_ := Aside0.mk (Kd.R_mono (ok' := fun k_ => some k_ ≠ (.slice Ao23 (t248.length + 1) co23 : Value).ownBlock ∧ some k_ ≠ (.slice Ao24 (t251.length + 1) co24 : Value).ownBlock ∧ some k_ ≠ (.slice Ao57 t254.length co57 : Value).ownBlock) (Kd.R_keptB (HO_14.out) hkp (fun k_ hk_ hs_ => (hk_.2.2) hs_)) (fun k_ hk_ => ⟨hk_.1.1, hk_.1.2.1, hk_.1.2.2⟩)); have n4_ := Aside0.mk (blk_kept (by (with_reducible repeat (first | refine blk_drewN ?_ _ | refine blk_drew ?_ | refine blk_alloc ?_ _)); exact BK246.out) hkp (fun hs_ => (fun e_ => (Kd.R_ne HO_10.out BK246.out (by decide)) e_) hs_)); have n5_ := Aside0.mk (hb); clear HO_8; clear HO_9; clear HO_10; clear HO_14; clear BK246; clear HB; have HO_8 := n0_; have HO_9 := n1_; have HO_10 := n2_; have HO_14 := n3_; have BK246 := n4_; have HB := n5_; clear n0_ n1_ n2_ n3_ n4_ n5_; (try clear hb); (try clear hkp); (try clear hy0); obtain ⟨Ao59, co59, eo59⟩ := Kd.R_slice HO_14.out; subst eo59) | ((with_reducible refine gate_callee (f := 23) rfl ?_); refine goesL_ (some 96) rfl rfl Try.func23 (by kernel_rfl) rfl #[.slice Ao59 t260.length co59] rfl (by (try simp only [List.map_toArray, List.map_cons, List.map_nil]); first | done | rfl | (simp only [List.length_drop, List.length_take]; rfl)) ?_; (with_reducible refine (twoslotlaw07_spoil.calls kj18 (fun k_ => some k_ = (.slice Ao59 t260.length co59 : Value).ownBlock) (.slice Ao59 t260.length co59) t260 t277 w _ ?side1 ?side2 A49.out).mono ?_); (case side1 => repeat (first | (with_reducible first | exact HB.out | apply below_alloc | apply pw_below_drewN | apply below_drew1 | refine below_set ?_ GE246.out) | exact HB.out)); (case side2 => exact Kd.R_tight rfl HO_14.out); rintro e w60 ⟨rfl, hy0, hb, hkp⟩; refine ⟨_, rfl, ?_⟩; have n0_ := Aside0.mk (Kd.R_mono (ok' := fun k_ => some k_ ≠ (.slice Ao24 (t251.length + 1) co24 : Value).ownBlock ∧ some k_ ≠ (.slice Ao57 t254.length co57 : Value).ownBlock ∧ some k_ ≠ (.slice Ao59 t260.length co59 : Value).ownBlock) (Kd.R_keptB (HO_8.out) hkp (fun k_ hk_ hs_ => (hk_.2.2) hs_)) (fun k_ hk_ => ⟨hk_.1.1, hk_.1.2.1, hk_.1.2.2⟩)); have n1_ := Aside0.mk (Kd.R_mono (ok' := fun k_ => some k_ ≠ (.slice Ao23 (t248.length + 1) co23 : Value).ownBlock ∧ some k_ ≠ (.slice Ao57 t254.length co57 : Value).ownBlock ∧ some k_ ≠ (.slice Ao59 t260.length co59 : Value).ownBlock) (Kd.R_keptB (HO_9.out) hkp (fun k_ hk_ hs_ => (hk_.2.2) hs_)) (fun k_ hk_ => ⟨hk_.1.1, hk_.1.2.1, hk_.1.2.2⟩)); have n2_ := Aside0.mk (Kd.R_mono (ok' := fun k_ => some k_ ≠ (.slice Ao23 (t248.length + 1) co23 : Value).ownBlock ∧ some k_ ≠ (.slice Ao24 (t251.length + 1) co24 : Value).ownBlock ∧ some k_ ≠ (.slice Ao59 t260.length co59 : Value).ownBlock) (Kd.R_keptB (HO_10.out) hkp (fun k_ hk_ hs_ => (hk_.2.2) hs_)) (fun k_ hk_ => ⟨hk_.1.1, hk_.1.2.1, hk_.1.2.2⟩)); have n3_ := Aside0.mk (Kd.R_reok rfl hy0 (fun k_ e_ => HO_14.out.1 k_ e_)); have n4_ := Aside0.mk (blk_kept (by (with_reducible repeat (first | refine blk_drewN ?_ _ | refine blk_drew ?_ | refine blk_alloc ?_ _)); exact BK246.out) hkp (fun hs_ => (fun e_ => (Kd.R_ne HO_14.out BK246.out (by decide)) e_) hs_)); have n5_ := Aside0.mk (hb); clear HO_8; clear HO_9; clear HO_10; clear HO_14; clear BK246; clear HB; have HO_8 := n0_; have HO_9 := n1_; have HO_10 := n2_; have HO_14 := n3_; have BK246 := n4_; have HB := n5_; clear n0_ n1_ n2_ n3_ n4_ n5_; (try clear hb); (try clear hkp); (try clear hy0)) | (go_at_call 24; (with_reducible refine (twoslotlaw07_kept.calls2 kj18 _ _ t248 _ _ l1 true _ ?side1 ?side2 ?side3 ?side4 ?side5 ?side6 A51.out).mono ?_); (case side1 => repeat (first | exact (twoslotlaw07_kept.reads HO_8.out).2.2 | (with_reducible refine Kd.C_alloc ?_ _) | (with_reducible refine Kd.C_drewN ?_ _) | (with_reducible refine Kd.C_drew ?_))); (case side2 => exact (twoslotlaw07_kept.reads HO_8.out).2.1); (case side3 => repeat (first | exact (Kd.C_below HR1.out HB.out) | (with_reducible refine Kd.C_alloc ?_ _) | (with_reducible refine Kd.C_drewN ?_ _) | (with_reducible refine Kd.C_drew ?_))); (case side4 => exact HC1.out); (case side5 => repeat (first | exact (twoslotlaw07_kept.marked HO_8.out).2 | (with_reducible refine Kd.C_alloc ?_ _) | (with_reducible refine Kd.C_drewN ?_ _) | (with_reducible refine Kd.C_drew ?_))); (case side6 => exact (twoslotlaw07_kept.marked HO_8.out).1); rintro e w' ⟨rfl, ⟨nd, rfl⟩⟩) | (go_at_call 24; (with_reducible refine (twoslotlaw07_kept.calls2 kj18 _ _ t251 _ _ l2 true _ ?side1 ?side2 ?side3 ?side4 ?side5 ?side6 A53.out).mono ?_); (case side1 => repeat (first | exact (twoslotlaw07_kept.reads HO_9.out).2.2 | (with_reducible refine Kd.C_alloc ?_ _) | (with_reducible refine Kd.C_drewN ?_ _) | (with_reducible refine Kd.C_drew ?_))); (case side2 => exact (twoslotlaw07_kept.reads HO_9.out).2.1); (case side3 => repeat (first | exact (Kd.C_below HR2.out (by repeat (first | (with_reducible first | exact HB.out | apply below_alloc | apply pw_below_drewN | apply below_drew1 | refine below_set ?_ GE246.out) | exact HB.out))) | (with_reducible refine Kd.C_alloc ?_ _) | (with_reducible refine Kd.C_drewN ?_ _) | (with_reducible refine Kd.C_drew ?_))); (case side4 => exact HC2.out); (case side5 => repeat (first | exact (twoslotlaw07_kept.marked HO_9.out).2 | (with_reducible refine Kd.C_alloc ?_ _) | (with_reducible refine Kd.C_drewN ?_ _) | (with_reducible refine Kd.C_drew ?_))); (case side6 => exact (twoslotlaw07_kept.marked HO_9.out).1); rintro e w' ⟨rfl, ⟨nd, rfl⟩⟩))
                        go_ret
                        exact ⟨by first | rfl | (simp [errW_none, errW_some] <;> rfl) | (simp [*, errW_none, errW_some] <;> rfl), by repeat (first | (with_reducible first | exact HB.out | apply below_alloc | apply pw_below_drewN | apply below_drew1 | refine below_set ?_ GE246.out) | exact HB.out)⟩
                      · rw [if_neg c56] at H
                        exact absurd H (by simp)
                    · rw [if_neg c55] at H
                      exact absurd H (by simp)
                  · replace c54 := Bool.eq_false_iff.mpr c54
                    subst c54
                    have H1 : (none) = some r := by rw [if_neg (show ¬ (false = true) by decide)] at H; exact H
                    clear H
                    have H := H1
                    clear H1
                    exact absurd H (by simp)
                · replace c52 := Bool.eq_false_iff.mpr c52
                  subst c52
                  have H1 : (none) = some r := by rw [if_neg (show ¬ (false = true) by decide)] at H; exact H
                  clear H
                  have H := H1
                  clear H1
                  exact absurd H (by simp)
              · replace c50 := Bool.eq_false_iff.mpr c50
                subst c50
                have H1 : (none) = some r := by rw [if_neg (show ¬ (false = true) by decide)] at H; exact H
                clear H
                have H := H1
                clear H1
                exact absurd H (by simp)
  · replace c5 := Bool.eq_false_iff.mpr c5
    subst c5
    have H1 : (none) = some r := by rw [if_neg (show ¬ (false = true) by decide)] at H; exact H
    clear H
    have H := H1
    clear H1
    exact absurd H (by simp)

/-- THE ONE PURE STATEMENT of twoslotlaw07_VectorTwos: yours. -/
def twoslotlaw07_VectorTwos.Pure : Prop := ∀ (a0_0 : Int) (a0_1 : Int) (a0_2 : Int) (a0_3 : Int) (l1 : List Int) (l2 : List Int), (Lit.int .i64 a0_0).wf = true → (Lit.int .i64 a0_1).wf = true → (Lit.int .i64 a0_2).wf = true → (Lit.int .i64 a0_3).wf = true → (l1.length ≤ maxLen ∧ l1.length * 8 ≤ 140737488351232 ∧ ∀ y0 ∈ l1, (Lit.int .i64 y0).wf = true) → (l2.length ≤ maxLen ∧ l2.length * 8 ≤ 140737488351232 ∧ ∀ y0 ∈ l2, (Lit.int .i64 y0).wf = true) → ∃ k, twoslotlaw07_VectorTwos.f k a0_0 a0_1 a0_2 a0_3 l1 l2 = some true

end Go.Proofs.Ytkmcjmhnoccedaa.PF
