-- written by the session's own program (wip/prt.py) over the kit's print: not print.sh's own text
import Derived.Test.YtkmcjmhnoccedaaPCx0
import Derived.Test.YtkmcjmhnoccedaaPCx4
import Derived.Test.YtkmcjmhnoccedaaPCx6
import Derived.Test.YtkmcjmhnoccedaaPCx7
import Derived.Test.YtkmcjmhnoccedaaPCx8
namespace Go.Proofs.Ytkmcjmhnoccedaa.PC
open Go.RowKit Go.Proofs.YtkmcjmhnoccedaaW.PrintWords Go.Proofs.YtkmcjmhnoccedaaW.PrintLast Go.Proofs.YtkmcjmhnoccedaaW.PrintMore
attribute [local go_sem] max2_int min2_int max_two min_two max_three min_three max_four min_four   -- for this text's walks alone
set_option linter.unusedVariables false
set_option linter.unusedSimpArgs false

/-! ### twoslotlaw07_VectorOrder: function 6 -/
mutual
def twoslotlaw07_VectorOrder.j0 : Nat → List Int → List Int → List Int → Bool → Int → Int → Int → Int → Option (Bool)
  | 0, _, _, _, _, _, _, _, _ => none
  | k + 1, x1, x2, x3, x51, x294000, x294001, x294002, x294003 => if x51 = true then (some true) else ((vector_Check.f k x294000 x294001 x294002 x294003 x1).bind fun t295 => (if t295 = 0 then ((vector_Check.f k x294000 x294001 x294002 x294003 x2).bind fun t296 => (if t296 = 0 then ((vector_Check.f k x294000 x294001 x294002 x294003 x3).bind fun t297 => (twoslotlaw07_VectorOrder.j1 k x1 x2 x3 (t297 != 0) x294000 x294001 x294002 x294003)) else (twoslotlaw07_VectorOrder.j1 k x1 x2 x3 true x294000 x294001 x294002 x294003))) else (twoslotlaw07_VectorOrder.j1 k x1 x2 x3 true x294000 x294001 x294002 x294003)))
def twoslotlaw07_VectorOrder.j1 : Nat → List Int → List Int → List Int → Bool → Int → Int → Int → Int → Option (Bool)
  | 0, _, _, _, _, _, _, _, _ => none
  | k + 1, x1, x2, x3, x67, x294000, x294001, x294002, x294003 => if x67 = true then (some true) else ((vector_Join.f k x294000 x294001 x294002 x294003 x1 x2).bind fun bt298 => ((vector_Join.f k x294000 x294001 x294002 x294003 x2 x1).bind fun bt302 => ((vector_Join.f k x294000 x294001 x294002 x294003 x1 x1).bind fun bt306 => ((vector_Below.f k x294000 x294001 x294002 x294003 x1 bt298.1).bind fun bt310 => ((vector_Below.f k x294000 x294001 x294002 x294003 x2 bt298.1).bind fun bt312 => ((vector_Below.f k x294000 x294001 x294002 x294003 x1 x2).bind fun bt314 => ((vector_Below.f k x294000 x294001 x294002 x294003 x2 x1).bind fun bt316 => ((vector_Below.f k x294000 x294001 x294002 x294003 x1 x3).bind fun bt318 => ((vector_Below.f k x294000 x294001 x294002 x294003 x2 x3).bind fun bt320 => ((vector_Below.f k x294000 x294001 x294002 x294003 bt298.1 x3).bind fun bt322 => (if bt298.2 = 0 then (if bt302.2 = 0 then (if bt306.2 = 0 then (if bt310.2 = 0 then (if bt312.2 = 0 then (if bt314.2 = 0 then (if bt316.2 = 0 then (if bt318.2 = 0 then (if bt320.2 = 0 then (twoslotlaw07_VectorOrder.j2 k x1 x2 x3 bt298.1 bt302.1 bt306.1 bt310.1 bt312.1 bt314.1 bt316.1 bt318.1 bt320.1 bt322.1 (bt322.2 != 0) x294000 x294001 x294002 x294003) else (none)) else (none)) else (none)) else (none)) else (none)) else (none)) else (none)) else (none)) else (none))))))))))))
def twoslotlaw07_VectorOrder.j2 : Nat → List Int → List Int → List Int → List Int → List Int → List Int → Bool → Bool → Bool → Bool → Bool → Bool → Bool → Bool → Int → Int → Int → Int → Option (Bool)
  | 0, _, _, _, _, _, _, _, _, _, _, _, _, _, _, _, _, _, _ => none
  | k + 1, x1, x2, x3, x10, x12, x14, x16, x18, x20, x22, x24, x26, x28, x175, x294000, x294001, x294002, x294003 => if x175 = true then (none) else ((twoslotref07_Same.f k x10 x12).bind fun t324 => (if t324 = true then ((twoslotref07_Same.f k x14 x1).bind fun t325 => (if t325 = true then (if x16 = true then (if x18 = true then (if x20 = true then ((twoslotref07_Same.f k x1 x2).bind fun t326 => (if (x22 != t326) = true then (none) else (if x26 = true then (if x24 = true then (twoslotlaw07_VectorOrder.j3 k x1 x2 x3 x10 (x28 != x26) x294000 x294001 x294002 x294003) else (none)) else (if x24 = true then (twoslotlaw07_VectorOrder.j3 k x1 x2 x3 x10 (x28 != x26) x294000 x294001 x294002 x294003) else (twoslotlaw07_VectorOrder.j3 k x1 x2 x3 x10 (x28 != false) x294000 x294001 x294002 x294003))))) else ((twoslotref07_Same.f k x1 x2).bind fun t327 => (if (false != t327) = true then (none) else (if x24 = true then (twoslotlaw07_VectorOrder.j3 k x1 x2 x3 x10 (x28 != x26) x294000 x294001 x294002 x294003) else (twoslotlaw07_VectorOrder.j3 k x1 x2 x3 x10 (x28 != false) x294000 x294001 x294002 x294003))))) else (none)) else (none)) else (none))) else (none)))
def twoslotlaw07_VectorOrder.j3 : Nat → List Int → List Int → List Int → List Int → Bool → Int → Int → Int → Int → Option (Bool)
  | 0, _, _, _, _, _, _, _, _, _ => none
  | k + 1, x1, x2, x3, x10, x221, x294000, x294001, x294002, x294003 => if x221 = true then (none) else ((vector_Join.f k x294000 x294001 x294002 x294003 x10 x3).bind fun bt328 => ((vector_Join.f k x294000 x294001 x294002 x294003 x2 x3).bind fun bt332 => ((vector_Join.f k x294000 x294001 x294002 x294003 x1 bt332.1).bind fun bt336 => (if bt328.2 = 0 then (if bt332.2 = 0 then (if bt336.2 = 0 then ((twoslotref07_Same.f k bt328.1 bt336.1).bind fun t340 => (some t340)) else (none)) else (none)) else (none)))))
end
def twoslotlaw07_VectorOrder.f (k : Nat) (a0_0 : Int) (a0_1 : Int) (a0_2 : Int) (a0_3 : Int) (l1 : List Int) (l2 : List Int) (l3 : List Int) : Option (Bool) := (twoslotlaw07_alive.f k).bind fun t294 => (if t294 = true then (if (l1.length : Int) > 200 then (twoslotlaw07_VectorOrder.j0 k l1 l2 l3 true a0_0 a0_1 a0_2 a0_3) else (if (l2.length : Int) > 200 then (twoslotlaw07_VectorOrder.j0 k l1 l2 l3 true a0_0 a0_1 a0_2 a0_3) else (twoslotlaw07_VectorOrder.j0 k l1 l2 l3 (decide ((l3.length : Int) > 200)) a0_0 a0_1 a0_2 a0_3))) else (none))
theorem twoslotlaw07_VectorOrder.mono_l : ∀ k, (∀ y0 y1 y2 y3 y4 y5 y6 y7, LeO (twoslotlaw07_VectorOrder.j0 k y0 y1 y2 y3 y4 y5 y6 y7) (twoslotlaw07_VectorOrder.j0 (k + 1) y0 y1 y2 y3 y4 y5 y6 y7)) ∧ (∀ y0 y1 y2 y3 y4 y5 y6 y7, LeO (twoslotlaw07_VectorOrder.j1 k y0 y1 y2 y3 y4 y5 y6 y7) (twoslotlaw07_VectorOrder.j1 (k + 1) y0 y1 y2 y3 y4 y5 y6 y7)) ∧ (∀ y0 y1 y2 y3 y4 y5 y6 y7 y8 y9 y10 y11 y12 y13 y14 y15 y16 y17, LeO (twoslotlaw07_VectorOrder.j2 k y0 y1 y2 y3 y4 y5 y6 y7 y8 y9 y10 y11 y12 y13 y14 y15 y16 y17) (twoslotlaw07_VectorOrder.j2 (k + 1) y0 y1 y2 y3 y4 y5 y6 y7 y8 y9 y10 y11 y12 y13 y14 y15 y16 y17)) ∧ (∀ y0 y1 y2 y3 y4 y5 y6 y7 y8, LeO (twoslotlaw07_VectorOrder.j3 k y0 y1 y2 y3 y4 y5 y6 y7 y8) (twoslotlaw07_VectorOrder.j3 (k + 1) y0 y1 y2 y3 y4 y5 y6 y7 y8))
  | 0 => ⟨fun _ _ _ _ _ _ _ _ r h => by simp [twoslotlaw07_VectorOrder.j0] at h, fun _ _ _ _ _ _ _ _ r h => by simp [twoslotlaw07_VectorOrder.j1] at h, fun _ _ _ _ _ _ _ _ _ _ _ _ _ _ _ _ _ _ r h => by simp [twoslotlaw07_VectorOrder.j2] at h, fun _ _ _ _ _ _ _ _ _ r h => by simp [twoslotlaw07_VectorOrder.j3] at h⟩
  | k + 1 => by
    obtain ⟨ih0, ih1, ih2, ih3⟩ := twoslotlaw07_VectorOrder.mono_l k
    refine ⟨?_, ?_, ?_, ?_⟩
    · intro y0 y1 y2 y3 y4 y5 y6 y7
      unfold twoslotlaw07_VectorOrder.j0
      repeat' first
      | (with_reducible exact ih0 _ _ _ _ _ _ _ _)
      | (with_reducible exact ih1 _ _ _ _ _ _ _ _)
      | (with_reducible exact ih2 _ _ _ _ _ _ _ _ _ _ _ _ _ _ _ _ _ _)
      | (with_reducible exact ih3 _ _ _ _ _ _ _ _ _)
      | (with_reducible exact twoslotlaw07_alive.mono _)
      | (with_reducible exact twoslotref07_Same.mono _ _ _)
      | (with_reducible exact vector_Below.mono _ _ _ _ _ _ _)
      | (with_reducible exact vector_Check.mono _ _ _ _ _ _)
      | (with_reducible exact vector_Join.mono _ _ _ _ _ _ _)
      | (with_reducible exact LeO.refl _)
      | (with_reducible exact LeO.none _)
      | (with_reducible refine LeO.ite ?_ ?_)
      | (with_reducible refine LeO.bind ?_ (fun _ => ?_))
      | exact ih0 _ _ _ _ _ _ _ _
      | exact ih1 _ _ _ _ _ _ _ _
      | exact ih2 _ _ _ _ _ _ _ _ _ _ _ _ _ _ _ _ _ _
      | exact ih3 _ _ _ _ _ _ _ _ _
      | exact twoslotlaw07_alive.mono _
      | exact twoslotref07_Same.mono _ _ _
      | exact vector_Below.mono _ _ _ _ _ _ _
      | exact vector_Check.mono _ _ _ _ _ _
      | exact vector_Join.mono _ _ _ _ _ _ _
      | exact LeO.none _
      | refine LeO.ite ?_ ?_
      | refine LeO.bind ?_ (fun _ => ?_)
    · intro y0 y1 y2 y3 y4 y5 y6 y7
      unfold twoslotlaw07_VectorOrder.j1
      repeat' first
      | (with_reducible exact ih0 _ _ _ _ _ _ _ _)
      | (with_reducible exact ih1 _ _ _ _ _ _ _ _)
      | (with_reducible exact ih2 _ _ _ _ _ _ _ _ _ _ _ _ _ _ _ _ _ _)
      | (with_reducible exact ih3 _ _ _ _ _ _ _ _ _)
      | (with_reducible exact twoslotlaw07_alive.mono _)
      | (with_reducible exact twoslotref07_Same.mono _ _ _)
      | (with_reducible exact vector_Below.mono _ _ _ _ _ _ _)
      | (with_reducible exact vector_Check.mono _ _ _ _ _ _)
      | (with_reducible exact vector_Join.mono _ _ _ _ _ _ _)
      | (with_reducible exact LeO.refl _)
      | (with_reducible exact LeO.none _)
      | (with_reducible refine LeO.ite ?_ ?_)
      | (with_reducible refine LeO.bind ?_ (fun _ => ?_))
      | exact ih0 _ _ _ _ _ _ _ _
      | exact ih1 _ _ _ _ _ _ _ _
      | exact ih2 _ _ _ _ _ _ _ _ _ _ _ _ _ _ _ _ _ _
      | exact ih3 _ _ _ _ _ _ _ _ _
      | exact twoslotlaw07_alive.mono _
      | exact twoslotref07_Same.mono _ _ _
      | exact vector_Below.mono _ _ _ _ _ _ _
      | exact vector_Check.mono _ _ _ _ _ _
      | exact vector_Join.mono _ _ _ _ _ _ _
      | exact LeO.none _
      | refine LeO.ite ?_ ?_
      | refine LeO.bind ?_ (fun _ => ?_)
    · intro y0 y1 y2 y3 y4 y5 y6 y7 y8 y9 y10 y11 y12 y13 y14 y15 y16 y17
      unfold twoslotlaw07_VectorOrder.j2
      repeat' first
      | (with_reducible exact ih0 _ _ _ _ _ _ _ _)
      | (with_reducible exact ih1 _ _ _ _ _ _ _ _)
      | (with_reducible exact ih2 _ _ _ _ _ _ _ _ _ _ _ _ _ _ _ _ _ _)
      | (with_reducible exact ih3 _ _ _ _ _ _ _ _ _)
      | (with_reducible exact twoslotlaw07_alive.mono _)
      | (with_reducible exact twoslotref07_Same.mono _ _ _)
      | (with_reducible exact vector_Below.mono _ _ _ _ _ _ _)
      | (with_reducible exact vector_Check.mono _ _ _ _ _ _)
      | (with_reducible exact vector_Join.mono _ _ _ _ _ _ _)
      | (with_reducible exact LeO.refl _)
      | (with_reducible exact LeO.none _)
      | (with_reducible refine LeO.ite ?_ ?_)
      | (with_reducible refine LeO.bind ?_ (fun _ => ?_))
      | exact ih0 _ _ _ _ _ _ _ _
      | exact ih1 _ _ _ _ _ _ _ _
      | exact ih2 _ _ _ _ _ _ _ _ _ _ _ _ _ _ _ _ _ _
      | exact ih3 _ _ _ _ _ _ _ _ _
      | exact twoslotlaw07_alive.mono _
      | exact twoslotref07_Same.mono _ _ _
      | exact vector_Below.mono _ _ _ _ _ _ _
      | exact vector_Check.mono _ _ _ _ _ _
      | exact vector_Join.mono _ _ _ _ _ _ _
      | exact LeO.none _
      | refine LeO.ite ?_ ?_
      | refine LeO.bind ?_ (fun _ => ?_)
    · intro y0 y1 y2 y3 y4 y5 y6 y7 y8
      unfold twoslotlaw07_VectorOrder.j3
      repeat' first
      | (with_reducible exact ih0 _ _ _ _ _ _ _ _)
      | (with_reducible exact ih1 _ _ _ _ _ _ _ _)
      | (with_reducible exact ih2 _ _ _ _ _ _ _ _ _ _ _ _ _ _ _ _ _ _)
      | (with_reducible exact ih3 _ _ _ _ _ _ _ _ _)
      | (with_reducible exact twoslotlaw07_alive.mono _)
      | (with_reducible exact twoslotref07_Same.mono _ _ _)
      | (with_reducible exact vector_Below.mono _ _ _ _ _ _ _)
      | (with_reducible exact vector_Check.mono _ _ _ _ _ _)
      | (with_reducible exact vector_Join.mono _ _ _ _ _ _ _)
      | (with_reducible exact LeO.refl _)
      | (with_reducible exact LeO.none _)
      | (with_reducible refine LeO.ite ?_ ?_)
      | (with_reducible refine LeO.bind ?_ (fun _ => ?_))
      | exact ih0 _ _ _ _ _ _ _ _
      | exact ih1 _ _ _ _ _ _ _ _
      | exact ih2 _ _ _ _ _ _ _ _ _ _ _ _ _ _ _ _ _ _
      | exact ih3 _ _ _ _ _ _ _ _ _
      | exact twoslotlaw07_alive.mono _
      | exact twoslotref07_Same.mono _ _ _
      | exact vector_Below.mono _ _ _ _ _ _ _
      | exact vector_Check.mono _ _ _ _ _ _
      | exact vector_Join.mono _ _ _ _ _ _ _
      | exact LeO.none _
      | refine LeO.ite ?_ ?_
      | refine LeO.bind ?_ (fun _ => ?_)
theorem twoslotlaw07_VectorOrder.mono : ∀ a0 a1 a2 a3 a4 a5 a6 k, LeO (twoslotlaw07_VectorOrder.f k a0 a1 a2 a3 a4 a5 a6) (twoslotlaw07_VectorOrder.f (k + 1) a0 a1 a2 a3 a4 a5 a6) := by
  intro a0 a1 a2 a3 a4 a5 a6 k
  obtain ⟨ih0, ih1, ih2, ih3⟩ := twoslotlaw07_VectorOrder.mono_l k
  unfold twoslotlaw07_VectorOrder.f
  repeat' first
      | (with_reducible exact ih0 _ _ _ _ _ _ _ _)
      | (with_reducible exact ih1 _ _ _ _ _ _ _ _)
      | (with_reducible exact ih2 _ _ _ _ _ _ _ _ _ _ _ _ _ _ _ _ _ _)
      | (with_reducible exact ih3 _ _ _ _ _ _ _ _ _)
      | (with_reducible exact twoslotlaw07_alive.mono _)
      | (with_reducible exact twoslotref07_Same.mono _ _ _)
      | (with_reducible exact vector_Below.mono _ _ _ _ _ _ _)
      | (with_reducible exact vector_Check.mono _ _ _ _ _ _)
      | (with_reducible exact vector_Join.mono _ _ _ _ _ _ _)
      | (with_reducible exact LeO.refl _)
      | (with_reducible exact LeO.none _)
      | (with_reducible refine LeO.ite ?_ ?_)
      | (with_reducible refine LeO.bind ?_ (fun _ => ?_))
      | exact ih0 _ _ _ _ _ _ _ _
      | exact ih1 _ _ _ _ _ _ _ _
      | exact ih2 _ _ _ _ _ _ _ _ _ _ _ _ _ _ _ _ _ _
      | exact ih3 _ _ _ _ _ _ _ _ _
      | exact twoslotlaw07_alive.mono _
      | exact twoslotref07_Same.mono _ _ _
      | exact vector_Below.mono _ _ _ _ _ _ _
      | exact vector_Check.mono _ _ _ _ _ _
      | exact vector_Join.mono _ _ _ _ _ _ _
      | exact LeO.none _
      | refine LeO.ite ?_ ?_
      | refine LeO.bind ?_ (fun _ => ?_)
set_option maxHeartbeats 8000000 in
set_option maxRecDepth 100000 in
theorem twoslotlaw07_VectorOrder.calls (k : Nat) (a0_0 : Int) (a0_1 : Int) (a0_2 : Int) (a0_3 : Int) (A1 : Option Addr) (c1 : Nat) (l1 : List Int) (A2 : Option Addr) (c2 : Nat) (l2 : List Int) (A3 : Option Addr) (c3 : Nat) (l3 : List Int) (r : Bool) (w : World) (hr1 : Kd.C (Kd.int .i64) w A1 l1.length l1) (hc1 : l1.length ≤ c1) (hr2 : Kd.C (Kd.int .i64) w A2 l2.length l2) (hc2 : l2.length ≤ c2) (hr3 : Kd.C (Kd.int .i64) w A3 l3.length l3) (hc3 : l3.length ≤ c3) (h : twoslotlaw07_VectorOrder.f k a0_0 a0_1 a0_2 a0_3 l1 l2 l3 = some r) :
    Calls Try.prog 6 #[.agg #[.int .i64 a0_0, .int .i64 a0_1, .int .i64 a0_2, .int .i64 a0_3], .slice A1 l1.length c1, .slice A2 l2.length c2, .slice A3 l3.length c3] w fun e w' => e = .returned (.bool r) ∧ Below w.heap.size w w' := by
  have hu24 := Try.underlying24
  have HR1 := Aside0.mk hr1
  have HC1 := Aside0.mk hc1
  clear hr1 hc1
  have HR2 := Aside0.mk hr2
  have HC2 := Aside0.mk hc2
  clear hr2 hc2
  have HR3 := Aside0.mk hr3
  have HC3 := Aside0.mk hc3
  clear hr3 hc3
  have HB := Aside0.mk (Below.refl w.heap.size w)
  have H : ((twoslotlaw07_alive.f k).bind fun t294 => (if t294 = true then (if (l1.length : Int) > 200 then (twoslotlaw07_VectorOrder.j0 k l1 l2 l3 true a0_0 a0_1 a0_2 a0_3) else (if (l2.length : Int) > 200 then (twoslotlaw07_VectorOrder.j0 k l1 l2 l3 true a0_0 a0_1 a0_2 a0_3) else (twoslotlaw07_VectorOrder.j0 k l1 l2 l3 (decide ((l3.length : Int) > 200)) a0_0 a0_1 a0_2 a0_3))) else (none))) = some r := h
  clear h
  replace H := Option.bind_eq_some_iff.mp H
  obtain ⟨t294, A50, H⟩ := H
  replace H : (if t294 = true then (if (l1.length : Int) > 200 then (twoslotlaw07_VectorOrder.j0 k l1 l2 l3 true a0_0 a0_1 a0_2 a0_3) else (if (l2.length : Int) > 200 then (twoslotlaw07_VectorOrder.j0 k l1 l2 l3 true a0_0 a0_1 a0_2 a0_3) else (twoslotlaw07_VectorOrder.j0 k l1 l2 l3 (decide ((l3.length : Int) > 200)) a0_0 a0_1 a0_2 a0_3))) else (none)) = some r := H
  have A5 := Aside0.mk A50
  clear A50
  by_cases c6 : t294 = true
  · subst c6
    have H1 : (if (l1.length : Int) > 200 then (twoslotlaw07_VectorOrder.j0 k l1 l2 l3 true a0_0 a0_1 a0_2 a0_3) else (if (l2.length : Int) > 200 then (twoslotlaw07_VectorOrder.j0 k l1 l2 l3 true a0_0 a0_1 a0_2 a0_3) else (twoslotlaw07_VectorOrder.j0 k l1 l2 l3 (decide ((l3.length : Int) > 200)) a0_0 a0_1 a0_2 a0_3))) = some r := by rw [if_pos rfl] at H; exact H
    clear H
    have H := H1
    clear H1
    have HC7 := Aside0.mk H
    clear H
    go_enter Try.func6, Try.ntmps6
    go_upto_region 4 with (first | ((with_reducible refine gate_dst (N := 4) rfl ?_); (try (refine gate_guard (by rfl) ?_; dsimp only)); refine box_event ?hg (N := 4) ?hd (cs := #[.int .i64 a0_0, .int .i64 a0_1, .int .i64 a0_2, .int .i64 a0_3]) (t := 24) ?hr ?_; (case hd => rfl); (case hg => rfl); (case hr => first | (go_simp; done) | (go_simp; rfl)); intro gb293 hg w8 hbox hb; have n0_ := Aside0.mk (below_step (by repeat (first | (with_reducible first | exact HB.out | apply below_alloc | apply pw_below_drewN | apply below_drew1) | exact HB.out)) hb); have n1_ := Aside0.mk (hbox); have n2_ := Aside0.mk ((by rw [hg]; exact (below_size (by repeat (first | (with_reducible first | exact HB.out | apply below_alloc | apply pw_below_drewN | apply below_drew1) | exact HB.out))) : w.heap.size ≤ gb293)); have n3_ := Aside0.mk ((by rw [hg]; exact (below_size (by repeat (first | (with_reducible first | exact HB.out | apply below_alloc | apply pw_below_drewN | apply below_drew1) | exact HB.out))) : w.heap.size ≤ gb293)); clear HB; have HB := n0_; have BK293 := n1_; have GW293 := n2_; have GE293 := n3_; clear n0_ n1_ n2_ n3_; clear hb hbox hg) | ((with_reducible refine gate_callee (f := 8) rfl ?_); refine goesL_ (some 36) rfl rfl Try.func8 (by kernel_rfl) rfl #[] rfl (by (try simp only [List.map_toArray, List.map_cons, List.map_nil]); first | done | rfl | (simp only [List.length_drop, List.length_take]; rfl)) ?_; (with_reducible refine (twoslotlaw07_alive.calls k  true _ A5.out).mono ?_); rintro e w9 ⟨rfl, hb⟩; refine ⟨_, rfl, ?_⟩; have n0_ := Aside0.mk (blk_below (g := gb293) (o := .cells #[.int .i64 a0_0, .int .i64 a0_1, .int .i64 a0_2, .int .i64 a0_3] 24 (0, 0)) (by (with_reducible repeat (first | refine blk_drewN ?_ _ | refine blk_drew ?_ | refine blk_alloc ?_ _)); exact BK293.out) hb); have n1_ := Aside0.mk (below_step (by repeat (first | (with_reducible first | exact HB.out | apply below_alloc | apply pw_below_drewN | apply below_drew1 | refine below_set ?_ GE293.out) | exact HB.out)) hb); clear BK293; clear HB; have BK293 := n0_; have HB := n1_; clear n0_ n1_; (try clear hb); (try clear hb2); (try clear hk); (try clear hi)))
    (try simp only [Act.put, List.setIfInBounds_toArray, List.set_cons_zero, List.set_cons_succ])
    go_cut [51] (fun v51 wc => ∃ (kq : Nat) (x51_6 : Bool), v51 = .bool x51_6 ∧ Aside0 (twoslotlaw07_VectorOrder.j0 kq l1 l2 l3 x51_6 a0_0 a0_1 a0_2 a0_3 = some r) ∧ Aside0 (kq ≤ k) ∧ Aside0 (wc.heap[gb293]? = some (.cells #[.int .i64 a0_0, .int .i64 a0_1, .int .i64 a0_2, .int .i64 a0_3] 24 (0, 0))) ∧ Aside0 (Below w.heap.size w wc))
    case first =>
      have H := HC7.out
      clear HC7
      by_cases c10 : (l1.length : Int) > 200
      · rw [if_pos c10] at H
        have c10b0 : decide (200 < (l1.length : Int)) = true := decide_eq_true c10
        have c10b1 : decide (200 < l1.length) = true := decide_eq_true (by omega)
        clear c10
        (first | rw [c10b0] | (simp only [i64_w, i32_w]; rw [c10b0]) | skip)
        have H' := Aside0.mk H
        clear H
        go_wp2
        go_meet
        case rel => exact ⟨_, (true), (by first | rfl | (simp; done) | (simp [*]; done)), H', ⟨by first | omega | exact Nat.le_refl _⟩, ⟨by (with_reducible repeat (first | refine blk_drewN ?_ _ | refine blk_drew ?_ | refine blk_alloc ?_ _)); exact BK293.out⟩, ⟨by repeat (first | (with_reducible first | exact HB.out | apply below_alloc | apply pw_below_drewN | apply below_drew1 | refine below_set ?_ GE293.out) | exact HB.out)⟩⟩
      · rw [if_neg c10] at H
        have c10b0 : decide (200 < (l1.length : Int)) = false := decide_eq_false c10
        have c10b1 : decide (200 < l1.length) = false := decide_eq_false (by omega)
        clear c10
        (first | rw [c10b0] | (simp only [i64_w, i32_w]; rw [c10b0]) | skip)
        by_cases c11 : (l2.length : Int) > 200
        · rw [if_pos c11] at H
          have c11b0 : decide (200 < (l2.length : Int)) = true := decide_eq_true c11
          have c11b1 : decide (200 < l2.length) = true := decide_eq_true (by omega)
          clear c11
          have H' := Aside0.mk H
          clear H
          go_wp2
          go_meet
          case rel => exact ⟨_, (true), (by first | rfl | (simp; done) | (simp [*]; done)), H', ⟨by first | omega | exact Nat.le_refl _⟩, ⟨by (with_reducible repeat (first | refine blk_drewN ?_ _ | refine blk_drew ?_ | refine blk_alloc ?_ _)); exact BK293.out⟩, ⟨by repeat (first | (with_reducible first | exact HB.out | apply below_alloc | apply pw_below_drewN | apply below_drew1 | refine below_set ?_ GE293.out) | exact HB.out)⟩⟩
        · rw [if_neg c11] at H
          have c11b0 : decide (200 < (l2.length : Int)) = false := decide_eq_false c11
          have c11b1 : decide (200 < l2.length) = false := decide_eq_false (by omega)
          clear c11
          have H' := Aside0.mk H
          clear H
          go_wp2
          go_meet
          case rel => exact ⟨_, (decide ((l3.length : Int) > 200)), (by first | rfl | (simp; done) | (simp [*]; done)), H', ⟨by first | omega | exact Nat.le_refl _⟩, ⟨by (with_reducible repeat (first | refine blk_drewN ?_ _ | refine blk_drew ?_ | refine blk_alloc ?_ _)); exact BK293.out⟩, ⟨by repeat (first | (with_reducible first | exact HB.out | apply below_alloc | apply pw_below_drewN | apply below_drew1 | refine below_set ?_ GE293.out) | exact HB.out)⟩⟩
    case rest =>
      as_aux_lemma =>
        clear HC7
        try clear c1
        try clear c2
        try clear p2
        try clear c3
        try clear c6
        try clear c8
        try clear c10
        try clear c10b0
        try clear c10b1
        try clear c11
        try clear c11b0
        try clear c11b1
        obtain ⟨kq, x51_6, rfl, HA, HJ6, BK293, HB⟩ := hcut
        cases kq with
        | zero => exact absurd HA.out (by simp [twoslotlaw07_VectorOrder.j0])
        | succ kj6 =>
          have H := HA.out
          clear HA
          simp only [twoslotlaw07_VectorOrder.j0] at H
          by_cases c12 : x51_6 = true
          · subst c12
            have H1 : (some true) = some r := by rw [if_pos rfl] at H; exact H
            clear H
            have H := H1
            clear H1
            obtain rfl := Option.some.inj H
            go_wp2
            go_ret
            exact ⟨by first | rfl | (simp [errW_none, errW_some] <;> rfl) | (simp [*, errW_none, errW_some] <;> rfl), by repeat (first | (with_reducible first | exact HB.out | apply below_alloc | apply pw_below_drewN | apply below_drew1 | refine below_set ?_ GE293.out) | exact HB.out)⟩
          · replace c12 := Bool.eq_false_iff.mpr c12
            subst c12
            have H1 : ((vector_Check.f kj6 a0_0 a0_1 a0_2 a0_3 l1).bind fun t295 => (if t295 = 0 then ((vector_Check.f kj6 a0_0 a0_1 a0_2 a0_3 l2).bind fun t296 => (if t296 = 0 then ((vector_Check.f kj6 a0_0 a0_1 a0_2 a0_3 l3).bind fun t297 => (twoslotlaw07_VectorOrder.j1 kj6 l1 l2 l3 (t297 != 0) a0_0 a0_1 a0_2 a0_3)) else (twoslotlaw07_VectorOrder.j1 kj6 l1 l2 l3 true a0_0 a0_1 a0_2 a0_3))) else (twoslotlaw07_VectorOrder.j1 kj6 l1 l2 l3 true a0_0 a0_1 a0_2 a0_3))) = some r := by rw [if_neg (show ¬ (false = true) by decide)] at H; exact H
            clear H
            have H := H1
            clear H1
            have HC13 := Aside0.mk H
            clear H
            go_upto_region 6 with (fail)
            go_cut [67] (fun v67 wc => ∃ (kq : Nat) (x67_12 : Bool), v67 = .bool x67_12 ∧ Aside0 (twoslotlaw07_VectorOrder.j1 kq l1 l2 l3 x67_12 a0_0 a0_1 a0_2 a0_3 = some r) ∧ Aside0 (kq ≤ kj6) ∧ Aside0 (wc.heap[gb293]? = some (.cells #[.int .i64 a0_0, .int .i64 a0_1, .int .i64 a0_2, .int .i64 a0_3] 24 (0, 0))) ∧ Aside0 (Below w.heap.size w wc))
            case first =>
              have H := HC13.out
              clear HC13
              replace H := Option.bind_eq_some_iff.mp H
              obtain ⟨t295, A140, H⟩ := H
              replace H : (if t295 = 0 then ((vector_Check.f kj6 a0_0 a0_1 a0_2 a0_3 l2).bind fun t296 => (if t296 = 0 then ((vector_Check.f kj6 a0_0 a0_1 a0_2 a0_3 l3).bind fun t297 => (twoslotlaw07_VectorOrder.j1 kj6 l1 l2 l3 (t297 != 0) a0_0 a0_1 a0_2 a0_3)) else (twoslotlaw07_VectorOrder.j1 kj6 l1 l2 l3 true a0_0 a0_1 a0_2 a0_3))) else (twoslotlaw07_VectorOrder.j1 kj6 l1 l2 l3 true a0_0 a0_1 a0_2 a0_3)) = some r := H
              have A14 := Aside0.mk A140
              clear A140
              by_cases c15 : t295 = 0
              · rw [if_pos c15] at H
                have c15b0 : (t295 == 0) = true := beq_iff_eq.mpr c15
                have c15b1 : (t295 != 0) = false := bne_eq_false_iff_eq.mpr c15
                clear c15
                (first | rw [c15b0] | (simp only [i64_w, i32_w]; rw [c15b0]) | skip)
                replace H := Option.bind_eq_some_iff.mp H
                obtain ⟨t296, A160, H⟩ := H
                replace H : (if t296 = 0 then ((vector_Check.f kj6 a0_0 a0_1 a0_2 a0_3 l3).bind fun t297 => (twoslotlaw07_VectorOrder.j1 kj6 l1 l2 l3 (t297 != 0) a0_0 a0_1 a0_2 a0_3)) else (twoslotlaw07_VectorOrder.j1 kj6 l1 l2 l3 true a0_0 a0_1 a0_2 a0_3)) = some r := H
                have A16 := Aside0.mk A160
                clear A160
                by_cases c17 : t296 = 0
                · rw [if_pos c17] at H
                  have c17b0 : (t296 == 0) = true := beq_iff_eq.mpr c17
                  have c17b1 : (t296 != 0) = false := bne_eq_false_iff_eq.mpr c17
                  clear c17
                  replace H := Option.bind_eq_some_iff.mp H
                  obtain ⟨t297, A180, H⟩ := H
                  replace H : (twoslotlaw07_VectorOrder.j1 kj6 l1 l2 l3 (t297 != 0) a0_0 a0_1 a0_2 a0_3) = some r := H
                  have A18 := Aside0.mk A180
                  clear A180
                  have H' := Aside0.mk H
                  clear H
                  have hcz19_0 : wc.cell? ⟨gb293, 0, none⟩ = some (.int .i64 a0_0) := (blk_cell BK293.out 0).trans rfl
                  have hcz19_1 : wc.cell? ⟨gb293, 1, none⟩ = some (.int .i64 a0_1) := (blk_cell BK293.out 1).trans rfl
                  have hcz19_2 : wc.cell? ⟨gb293, 2, none⟩ = some (.int .i64 a0_2) := (blk_cell BK293.out 2).trans rfl
                  have hcz19_3 : wc.cell? ⟨gb293, 3, none⟩ = some (.int .i64 a0_3) := (blk_cell BK293.out 3).trans rfl
                  have hfz19_0 := blk_frozen BK293.out 0
                  have hfz19_1 := blk_frozen BK293.out 1
                  have hfz19_2 := blk_frozen BK293.out 2
                  have hfz19_3 := blk_frozen BK293.out 3
                  go_wp2_with (first | ((with_reducible refine gate_callee (f := 21) rfl ?_); refine goesL_ (some 54) rfl rfl Try.func21 (by kernel_rfl) rfl #[.agg #[.int .i64 a0_0, .int .i64 a0_1, .int .i64 a0_2, .int .i64 a0_3], .slice A1 l1.length c1] rfl (by (try simp only [List.map_toArray, List.map_cons, List.map_nil]); first | done | rfl | (simp only [List.length_drop, List.length_take]; rfl)) ?_; (with_reducible refine (vector_Check.calls kj6 a0_0 a0_1 a0_2 a0_3 _ _ l1 t295 _ ?side1 ?side2 A14.out).mono ?_); (case side1 => repeat (first | exact (Kd.C_below HR1.out HB.out) | (with_reducible refine Kd.C_alloc ?_ _) | (with_reducible refine Kd.C_drewN ?_ _) | (with_reducible refine Kd.C_drew ?_))); (case side2 => exact HC1.out); rintro e w20 ⟨rfl, hb⟩; refine ⟨_, rfl, ?_⟩; have n0_ := Aside0.mk (blk_below (g := gb293) (o := .cells #[.int .i64 a0_0, .int .i64 a0_1, .int .i64 a0_2, .int .i64 a0_3] 24 (0, 0)) (by (with_reducible repeat (first | refine blk_drewN ?_ _ | refine blk_drew ?_ | refine blk_alloc ?_ _)); exact BK293.out) hb); have n1_ := Aside0.mk (below_step (by repeat (first | (with_reducible first | exact HB.out | apply below_alloc | apply pw_below_drewN | apply below_drew1 | refine below_set ?_ GE293.out) | exact HB.out)) hb); clear BK293; clear HB; have BK293 := n0_; have HB := n1_; clear n0_ n1_; (try clear hb); (try clear hb2); (try clear hk); (try clear hi); have hcz21_0 : w20.cell? ⟨gb293, 0, none⟩ = some (.int .i64 a0_0) := (blk_cell BK293.out 0).trans rfl; have hcz21_1 : w20.cell? ⟨gb293, 1, none⟩ = some (.int .i64 a0_1) := (blk_cell BK293.out 1).trans rfl; have hcz21_2 : w20.cell? ⟨gb293, 2, none⟩ = some (.int .i64 a0_2) := (blk_cell BK293.out 2).trans rfl; have hcz21_3 : w20.cell? ⟨gb293, 3, none⟩ = some (.int .i64 a0_3) := (blk_cell BK293.out 3).trans rfl; have hfz21_0 := blk_frozen BK293.out 0; have hfz21_1 := blk_frozen BK293.out 1; have hfz21_2 := blk_frozen BK293.out 2; have hfz21_3 := blk_frozen BK293.out 3) | (go_at_call 21; (with_reducible refine (vector_Check.calls kj6 a0_0 a0_1 a0_2 a0_3 _ _ l2 t296 _ ?side1 ?side2 A16.out).mono ?_); (case side1 => repeat (first | exact (Kd.C_below HR2.out HB.out) | (with_reducible refine Kd.C_alloc ?_ _) | (with_reducible refine Kd.C_drewN ?_ _) | (with_reducible refine Kd.C_drew ?_))); (case side2 => exact HC2.out); rintro e w22 ⟨rfl, hb⟩; have n0_ := Aside0.mk (blk_below (g := gb293) (o := .cells #[.int .i64 a0_0, .int .i64 a0_1, .int .i64 a0_2, .int .i64 a0_3] 24 (0, 0)) (by (with_reducible repeat (first | refine blk_drewN ?_ _ | refine blk_drew ?_ | refine blk_alloc ?_ _)); exact BK293.out) hb); have n1_ := Aside0.mk (below_step (by repeat (first | (with_reducible first | exact HB.out | apply below_alloc | apply pw_below_drewN | apply below_drew1 | refine below_set ?_ GE293.out) | exact HB.out)) hb); clear BK293; clear HB; have BK293 := n0_; have HB := n1_; clear n0_ n1_; (try clear hb); (try clear hb2); (try clear hk); (try clear hi); have hcz23_0 : w22.cell? ⟨gb293, 0, none⟩ = some (.int .i64 a0_0) := (blk_cell BK293.out 0).trans rfl; have hcz23_1 : w22.cell? ⟨gb293, 1, none⟩ = some (.int .i64 a0_1) := (blk_cell BK293.out 1).trans rfl; have hcz23_2 : w22.cell? ⟨gb293, 2, none⟩ = some (.int .i64 a0_2) := (blk_cell BK293.out 2).trans rfl; have hcz23_3 : w22.cell? ⟨gb293, 3, none⟩ = some (.int .i64 a0_3) := (blk_cell BK293.out 3).trans rfl; have hfz23_0 := blk_frozen BK293.out 0; have hfz23_1 := blk_frozen BK293.out 1; have hfz23_2 := blk_frozen BK293.out 2; have hfz23_3 := blk_frozen BK293.out 3) | (go_at_call 21; (with_reducible refine (vector_Check.calls kj6 a0_0 a0_1 a0_2 a0_3 _ _ l3 t297 _ ?side1 ?side2 A18.out).mono ?_); (case side1 => repeat (first | exact (Kd.C_below HR3.out HB.out) | (with_reducible refine Kd.C_alloc ?_ _) | (with_reducible refine Kd.C_drewN ?_ _) | (with_reducible refine Kd.C_drew ?_))); (case side2 => exact HC3.out); rintro e w24 ⟨rfl, hb⟩; have n0_ := Aside0.mk (blk_below (g := gb293) (o := .cells #[.int .i64 a0_0, .int .i64 a0_1, .int .i64 a0_2, .int .i64 a0_3] 24 (0, 0)) (by (with_reducible repeat (first | refine blk_drewN ?_ _ | refine blk_drew ?_ | refine blk_alloc ?_ _)); exact BK293.out) hb); have n1_ := Aside0.mk (below_step (by repeat (first | (with_reducible first | exact HB.out | apply below_alloc | apply pw_below_drewN | apply below_drew1 | refine below_set ?_ GE293.out) | exact HB.out)) hb); clear BK293; clear HB; have BK293 := n0_; have HB := n1_; clear n0_ n1_; (try clear hb); (try clear hb2); (try clear hk); (try clear hi)))
                  go_meet
                  case rel => exact ⟨_, ((t297 != 0)), (by first | rfl | (simp; done) | (simp [*]; done)), H', ⟨by have := HJ6.out; first | omega | exact Nat.le_refl _⟩, ⟨by (with_reducible repeat (first | refine blk_drewN ?_ _ | refine blk_drew ?_ | refine blk_alloc ?_ _)); exact BK293.out⟩, ⟨by repeat (first | (with_reducible first | exact HB.out | apply below_alloc | apply pw_below_drewN | apply below_drew1 | refine below_set ?_ GE293.out) | exact HB.out)⟩⟩
                · rw [if_neg c17] at H
                  have c17b0 : (t296 == 0) = false := beq_eq_false_iff_ne.mpr c17
                  have c17b1 : (t296 != 0) = true := bne_iff_ne.mpr c17
                  have H' := Aside0.mk H
                  clear H
                  have hcz25_0 : wc.cell? ⟨gb293, 0, none⟩ = some (.int .i64 a0_0) := (blk_cell BK293.out 0).trans rfl
                  have hcz25_1 : wc.cell? ⟨gb293, 1, none⟩ = some (.int .i64 a0_1) := (blk_cell BK293.out 1).trans rfl
                  have hcz25_2 : wc.cell? ⟨gb293, 2, none⟩ = some (.int .i64 a0_2) := (blk_cell BK293.out 2).trans rfl
                  have hcz25_3 : wc.cell? ⟨gb293, 3, none⟩ = some (.int .i64 a0_3) := (blk_cell BK293.out 3).trans rfl
                  have hfz25_0 := blk_frozen BK293.out 0
                  have hfz25_1 := blk_frozen BK293.out 1
                  have hfz25_2 := blk_frozen BK293.out 2
                  have hfz25_3 := blk_frozen BK293.out 3
                  go_wp2_with (first | ((with_reducible refine gate_callee (f := 21) rfl ?_); refine goesL_ (some 54) rfl rfl Try.func21 (by kernel_rfl) rfl #[.agg #[.int .i64 a0_0, .int .i64 a0_1, .int .i64 a0_2, .int .i64 a0_3], .slice A1 l1.length c1] rfl (by (try simp only [List.map_toArray, List.map_cons, List.map_nil]); first | done | rfl | (simp only [List.length_drop, List.length_take]; rfl)) ?_; (with_reducible refine (vector_Check.calls kj6 a0_0 a0_1 a0_2 a0_3 _ _ l1 t295 _ ?side1 ?side2 A14.out).mono ?_); (case side1 => repeat (first | exact (Kd.C_below HR1.out HB.out) | (with_reducible refine Kd.C_alloc ?_ _) | (with_reducible refine Kd.C_drewN ?_ _) | (with_reducible refine Kd.C_drew ?_))); (case side2 => exact HC1.out); rintro e w26 ⟨rfl, hb⟩; refine ⟨_, rfl, ?_⟩; have n0_ := Aside0.mk (blk_below (g := gb293) (o := .cells #[.int .i64 a0_0, .int .i64 a0_1, .int .i64 a0_2, .int .i64 a0_3] 24 (0, 0)) (by (with_reducible repeat (first | refine blk_drewN ?_ _ | refine blk_drew ?_ | refine blk_alloc ?_ _)); exact BK293.out) hb); have n1_ := Aside0.mk (below_step (by repeat (first | (with_reducible first | exact HB.out | apply below_alloc | apply pw_below_drewN | apply below_drew1 | refine below_set ?_ GE293.out) | exact HB.out)) hb); clear BK293; clear HB; have BK293 := n0_; have HB := n1_; clear n0_ n1_; (try clear hb); (try clear hb2); (try clear hk); (try clear hi); have hcz27_0 : w26.cell? ⟨gb293, 0, none⟩ = some (.int .i64 a0_0) := (blk_cell BK293.out 0).trans rfl; have hcz27_1 : w26.cell? ⟨gb293, 1, none⟩ = some (.int .i64 a0_1) := (blk_cell BK293.out 1).trans rfl; have hcz27_2 : w26.cell? ⟨gb293, 2, none⟩ = some (.int .i64 a0_2) := (blk_cell BK293.out 2).trans rfl; have hcz27_3 : w26.cell? ⟨gb293, 3, none⟩ = some (.int .i64 a0_3) := (blk_cell BK293.out 3).trans rfl; have hfz27_0 := blk_frozen BK293.out 0; have hfz27_1 := blk_frozen BK293.out 1; have hfz27_2 := blk_frozen BK293.out 2; have hfz27_3 := blk_frozen BK293.out 3) | (go_at_call 21; (with_reducible refine (vector_Check.calls kj6 a0_0 a0_1 a0_2 a0_3 _ _ l2 t296 _ ?side1 ?side2 A16.out).mono ?_); (case side1 => repeat (first | exact (Kd.C_below HR2.out HB.out) | (with_reducible refine Kd.C_alloc ?_ _) | (with_reducible refine Kd.C_drewN ?_ _) | (with_reducible refine Kd.C_drew ?_))); (case side2 => exact HC2.out); rintro e w28 ⟨rfl, hb⟩; have n0_ := Aside0.mk (blk_below (g := gb293) (o := .cells #[.int .i64 a0_0, .int .i64 a0_1, .int .i64 a0_2, .int .i64 a0_3] 24 (0, 0)) (by (with_reducible repeat (first | refine blk_drewN ?_ _ | refine blk_drew ?_ | refine blk_alloc ?_ _)); exact BK293.out) hb); have n1_ := Aside0.mk (below_step (by repeat (first | (with_reducible first | exact HB.out | apply below_alloc | apply pw_below_drewN | apply below_drew1 | refine below_set ?_ GE293.out) | exact HB.out)) hb); clear BK293; clear HB; have BK293 := n0_; have HB := n1_; clear n0_ n1_; (try clear hb); (try clear hb2); (try clear hk); (try clear hi)))
                  go_meet
                  case rel => exact ⟨_, (true), (by first | rfl | (simp; done) | (simp [*]; done)), H', ⟨by have := HJ6.out; first | omega | exact Nat.le_refl _⟩, ⟨by (with_reducible repeat (first | refine blk_drewN ?_ _ | refine blk_drew ?_ | refine blk_alloc ?_ _)); exact BK293.out⟩, ⟨by repeat (first | (with_reducible first | exact HB.out | apply below_alloc | apply pw_below_drewN | apply below_drew1 | refine below_set ?_ GE293.out) | exact HB.out)⟩⟩
              · rw [if_neg c15] at H
                have c15b0 : (t295 == 0) = false := beq_eq_false_iff_ne.mpr c15
                have c15b1 : (t295 != 0) = true := bne_iff_ne.mpr c15
                (first | rw [c15b0] | (simp only [i64_w, i32_w]; rw [c15b0]) | skip)
                have H' := Aside0.mk H
                clear H
                have hcz29_0 : wc.cell? ⟨gb293, 0, none⟩ = some (.int .i64 a0_0) := (blk_cell BK293.out 0).trans rfl
                have hcz29_1 : wc.cell? ⟨gb293, 1, none⟩ = some (.int .i64 a0_1) := (blk_cell BK293.out 1).trans rfl
                have hcz29_2 : wc.cell? ⟨gb293, 2, none⟩ = some (.int .i64 a0_2) := (blk_cell BK293.out 2).trans rfl
                have hcz29_3 : wc.cell? ⟨gb293, 3, none⟩ = some (.int .i64 a0_3) := (blk_cell BK293.out 3).trans rfl
                have hfz29_0 := blk_frozen BK293.out 0
                have hfz29_1 := blk_frozen BK293.out 1
                have hfz29_2 := blk_frozen BK293.out 2
                have hfz29_3 := blk_frozen BK293.out 3
                go_wp2_with (first | ((with_reducible refine gate_callee (f := 21) rfl ?_); refine goesL_ (some 54) rfl rfl Try.func21 (by kernel_rfl) rfl #[.agg #[.int .i64 a0_0, .int .i64 a0_1, .int .i64 a0_2, .int .i64 a0_3], .slice A1 l1.length c1] rfl (by (try simp only [List.map_toArray, List.map_cons, List.map_nil]); first | done | rfl | (simp only [List.length_drop, List.length_take]; rfl)) ?_; (with_reducible refine (vector_Check.calls kj6 a0_0 a0_1 a0_2 a0_3 _ _ l1 t295 _ ?side1 ?side2 A14.out).mono ?_); (case side1 => repeat (first | exact (Kd.C_below HR1.out HB.out) | (with_reducible refine Kd.C_alloc ?_ _) | (with_reducible refine Kd.C_drewN ?_ _) | (with_reducible refine Kd.C_drew ?_))); (case side2 => exact HC1.out); rintro e w30 ⟨rfl, hb⟩; refine ⟨_, rfl, ?_⟩; have n0_ := Aside0.mk (blk_below (g := gb293) (o := .cells #[.int .i64 a0_0, .int .i64 a0_1, .int .i64 a0_2, .int .i64 a0_3] 24 (0, 0)) (by (with_reducible repeat (first | refine blk_drewN ?_ _ | refine blk_drew ?_ | refine blk_alloc ?_ _)); exact BK293.out) hb); have n1_ := Aside0.mk (below_step (by repeat (first | (with_reducible first | exact HB.out | apply below_alloc | apply pw_below_drewN | apply below_drew1 | refine below_set ?_ GE293.out) | exact HB.out)) hb); clear BK293; clear HB; have BK293 := n0_; have HB := n1_; clear n0_ n1_; (try clear hb); (try clear hb2); (try clear hk); (try clear hi)))
                go_meet
                case rel => exact ⟨_, (true), (by first | rfl | (simp; done) | (simp [*]; done)), H', ⟨by have := HJ6.out; first | omega | exact Nat.le_refl _⟩, ⟨by (with_reducible repeat (first | refine blk_drewN ?_ _ | refine blk_drew ?_ | refine blk_alloc ?_ _)); exact BK293.out⟩, ⟨by repeat (first | (with_reducible first | exact HB.out | apply below_alloc | apply pw_below_drewN | apply below_drew1 | refine below_set ?_ GE293.out) | exact HB.out)⟩⟩
            case rest =>
              as_aux_lemma =>
                clear HC13
                try clear c1
                try clear c2
                try clear p2
                try clear c3
                try clear c6
                try clear c8
                try clear c10
                try clear c10b0
                try clear c10b1
                try clear c11
                try clear c11b0
                try clear c11b1
                try clear c12
                try clear c15
                try clear c15b0
                try clear c15b1
                try clear c17
                try clear c17b0
                try clear c17b1
                try clear c21
                try clear hcz19_0
                try clear hcz19_1
                try clear hcz19_2
                try clear hcz19_3
                try clear hcz21_0
                try clear hcz21_1
                try clear hcz21_2
                try clear hcz21_3
                try clear hcz23_0
                try clear hcz23_1
                try clear hcz23_2
                try clear hcz23_3
                try clear hcz25_0
                try clear hcz25_1
                try clear hcz25_2
                try clear hcz25_3
                try clear hcz27_0
                try clear hcz27_1
                try clear hcz27_2
                try clear hcz27_3
                try clear hcz29_0
                try clear hcz29_1
                try clear hcz29_2
                try clear hcz29_3
                try clear hfz19_0
                try clear hfz19_1
                try clear hfz19_2
                try clear hfz19_3
                try clear hfz21_0
                try clear hfz21_1
                try clear hfz21_2
                try clear hfz21_3
                try clear hfz23_0
                try clear hfz23_1
                try clear hfz23_2
                try clear hfz23_3
                try clear hfz25_0
                try clear hfz25_1
                try clear hfz25_2
                try clear hfz25_3
                try clear hfz27_0
                try clear hfz27_1
                try clear hfz27_2
                try clear hfz27_3
                try clear hfz29_0
                try clear hfz29_1
                try clear hfz29_2
                try clear hfz29_3
                try clear p2
                obtain ⟨kq, x67_12, rfl, HA, HJ12, BK293, HB⟩ := hcut
                cases kq with
                | zero => exact absurd HA.out (by simp [twoslotlaw07_VectorOrder.j1])
                | succ kj12 =>
                  have H := HA.out
                  clear HA
                  simp only [twoslotlaw07_VectorOrder.j1] at H
                  by_cases c31 : x67_12 = true
                  · subst c31
                    have H1 : (some true) = some r := by rw [if_pos rfl] at H; exact H
                    clear H
                    have H := H1
                    clear H1
                    obtain rfl := Option.some.inj H
                    go_wp2
                    go_ret
                    exact ⟨by first | rfl | (simp [errW_none, errW_some] <;> rfl) | (simp [*, errW_none, errW_some] <;> rfl), by repeat (first | (with_reducible first | exact HB.out | apply below_alloc | apply pw_below_drewN | apply below_drew1 | refine below_set ?_ GE293.out) | exact HB.out)⟩
                  · replace c31 := Bool.eq_false_iff.mpr c31
                    subst c31
                    have H1 : ((vector_Join.f kj12 a0_0 a0_1 a0_2 a0_3 l1 l2).bind fun bt298 => ((vector_Join.f kj12 a0_0 a0_1 a0_2 a0_3 l2 l1).bind fun bt302 => ((vector_Join.f kj12 a0_0 a0_1 a0_2 a0_3 l1 l1).bind fun bt306 => ((vector_Below.f kj12 a0_0 a0_1 a0_2 a0_3 l1 bt298.1).bind fun bt310 => ((vector_Below.f kj12 a0_0 a0_1 a0_2 a0_3 l2 bt298.1).bind fun bt312 => ((vector_Below.f kj12 a0_0 a0_1 a0_2 a0_3 l1 l2).bind fun bt314 => ((vector_Below.f kj12 a0_0 a0_1 a0_2 a0_3 l2 l1).bind fun bt316 => ((vector_Below.f kj12 a0_0 a0_1 a0_2 a0_3 l1 l3).bind fun bt318 => ((vector_Below.f kj12 a0_0 a0_1 a0_2 a0_3 l2 l3).bind fun bt320 => ((vector_Below.f kj12 a0_0 a0_1 a0_2 a0_3 bt298.1 l3).bind fun bt322 => (if bt298.2 = 0 then (if bt302.2 = 0 then (if bt306.2 = 0 then (if bt310.2 = 0 then (if bt312.2 = 0 then (if bt314.2 = 0 then (if bt316.2 = 0 then (if bt318.2 = 0 then (if bt320.2 = 0 then (twoslotlaw07_VectorOrder.j2 kj12 l1 l2 l3 bt298.1 bt302.1 bt306.1 bt310.1 bt312.1 bt314.1 bt316.1 bt318.1 bt320.1 bt322.1 (bt322.2 != 0) a0_0 a0_1 a0_2 a0_3) else (none)) else (none)) else (none)) else (none)) else (none)) else (none)) else (none)) else (none)) else (none)))))))))))) = some r := by rw [if_neg (show ¬ (false = true) by decide)] at H; exact H
                    clear H
                    have H := H1
                    clear H1
                    replace H := Option.bind_eq_some_iff.mp H
                    obtain ⟨⟨t298, t301⟩, A320, H⟩ := H
                    replace H : ((vector_Join.f kj12 a0_0 a0_1 a0_2 a0_3 l2 l1).bind fun bt302 => ((vector_Join.f kj12 a0_0 a0_1 a0_2 a0_3 l1 l1).bind fun bt306 => ((vector_Below.f kj12 a0_0 a0_1 a0_2 a0_3 l1 t298).bind fun bt310 => ((vector_Below.f kj12 a0_0 a0_1 a0_2 a0_3 l2 t298).bind fun bt312 => ((vector_Below.f kj12 a0_0 a0_1 a0_2 a0_3 l1 l2).bind fun bt314 => ((vector_Below.f kj12 a0_0 a0_1 a0_2 a0_3 l2 l1).bind fun bt316 => ((vector_Below.f kj12 a0_0 a0_1 a0_2 a0_3 l1 l3).bind fun bt318 => ((vector_Below.f kj12 a0_0 a0_1 a0_2 a0_3 l2 l3).bind fun bt320 => ((vector_Below.f kj12 a0_0 a0_1 a0_2 a0_3 t298 l3).bind fun bt322 => (if t301 = 0 then (if bt302.2 = 0 then (if bt306.2 = 0 then (if bt310.2 = 0 then (if bt312.2 = 0 then (if bt314.2 = 0 then (if bt316.2 = 0 then (if bt318.2 = 0 then (if bt320.2 = 0 then (twoslotlaw07_VectorOrder.j2 kj12 l1 l2 l3 t298 bt302.1 bt306.1 bt310.1 bt312.1 bt314.1 bt316.1 bt318.1 bt320.1 bt322.1 (bt322.2 != 0) a0_0 a0_1 a0_2 a0_3) else (none)) else (none)) else (none)) else (none)) else (none)) else (none)) else (none)) else (none)) else (none))))))))))) = some r := H
                    have A32 := Aside0.mk A320
                    clear A320
                    replace H := Option.bind_eq_some_iff.mp H
                    obtain ⟨⟨t302, t305⟩, A330, H⟩ := H
                    replace H : ((vector_Join.f kj12 a0_0 a0_1 a0_2 a0_3 l1 l1).bind fun bt306 => ((vector_Below.f kj12 a0_0 a0_1 a0_2 a0_3 l1 t298).bind fun bt310 => ((vector_Below.f kj12 a0_0 a0_1 a0_2 a0_3 l2 t298).bind fun bt312 => ((vector_Below.f kj12 a0_0 a0_1 a0_2 a0_3 l1 l2).bind fun bt314 => ((vector_Below.f kj12 a0_0 a0_1 a0_2 a0_3 l2 l1).bind fun bt316 => ((vector_Below.f kj12 a0_0 a0_1 a0_2 a0_3 l1 l3).bind fun bt318 => ((vector_Below.f kj12 a0_0 a0_1 a0_2 a0_3 l2 l3).bind fun bt320 => ((vector_Below.f kj12 a0_0 a0_1 a0_2 a0_3 t298 l3).bind fun bt322 => (if t301 = 0 then (if t305 = 0 then (if bt306.2 = 0 then (if bt310.2 = 0 then (if bt312.2 = 0 then (if bt314.2 = 0 then (if bt316.2 = 0 then (if bt318.2 = 0 then (if bt320.2 = 0 then (twoslotlaw07_VectorOrder.j2 kj12 l1 l2 l3 t298 t302 bt306.1 bt310.1 bt312.1 bt314.1 bt316.1 bt318.1 bt320.1 bt322.1 (bt322.2 != 0) a0_0 a0_1 a0_2 a0_3) else (none)) else (none)) else (none)) else (none)) else (none)) else (none)) else (none)) else (none)) else (none)))))))))) = some r := H
                    have A33 := Aside0.mk A330
                    clear A330
                    replace H := Option.bind_eq_some_iff.mp H
                    obtain ⟨⟨t306, t309⟩, A340, H⟩ := H
                    replace H : ((vector_Below.f kj12 a0_0 a0_1 a0_2 a0_3 l1 t298).bind fun bt310 => ((vector_Below.f kj12 a0_0 a0_1 a0_2 a0_3 l2 t298).bind fun bt312 => ((vector_Below.f kj12 a0_0 a0_1 a0_2 a0_3 l1 l2).bind fun bt314 => ((vector_Below.f kj12 a0_0 a0_1 a0_2 a0_3 l2 l1).bind fun bt316 => ((vector_Below.f kj12 a0_0 a0_1 a0_2 a0_3 l1 l3).bind fun bt318 => ((vector_Below.f kj12 a0_0 a0_1 a0_2 a0_3 l2 l3).bind fun bt320 => ((vector_Below.f kj12 a0_0 a0_1 a0_2 a0_3 t298 l3).bind fun bt322 => (if t301 = 0 then (if t305 = 0 then (if t309 = 0 then (if bt310.2 = 0 then (if bt312.2 = 0 then (if bt314.2 = 0 then (if bt316.2 = 0 then (if bt318.2 = 0 then (if bt320.2 = 0 then (twoslotlaw07_VectorOrder.j2 kj12 l1 l2 l3 t298 t302 t306 bt310.1 bt312.1 bt314.1 bt316.1 bt318.1 bt320.1 bt322.1 (bt322.2 != 0) a0_0 a0_1 a0_2 a0_3) else (none)) else (none)) else (none)) else (none)) else (none)) else (none)) else (none)) else (none)) else (none))))))))) = some r := H
                    have A34 := Aside0.mk A340
                    clear A340
                    replace H := Option.bind_eq_some_iff.mp H
                    obtain ⟨⟨t310, t311⟩, A350, H⟩ := H
                    replace H : ((vector_Below.f kj12 a0_0 a0_1 a0_2 a0_3 l2 t298).bind fun bt312 => ((vector_Below.f kj12 a0_0 a0_1 a0_2 a0_3 l1 l2).bind fun bt314 => ((vector_Below.f kj12 a0_0 a0_1 a0_2 a0_3 l2 l1).bind fun bt316 => ((vector_Below.f kj12 a0_0 a0_1 a0_2 a0_3 l1 l3).bind fun bt318 => ((vector_Below.f kj12 a0_0 a0_1 a0_2 a0_3 l2 l3).bind fun bt320 => ((vector_Below.f kj12 a0_0 a0_1 a0_2 a0_3 t298 l3).bind fun bt322 => (if t301 = 0 then (if t305 = 0 then (if t309 = 0 then (if t311 = 0 then (if bt312.2 = 0 then (if bt314.2 = 0 then (if bt316.2 = 0 then (if bt318.2 = 0 then (if bt320.2 = 0 then (twoslotlaw07_VectorOrder.j2 kj12 l1 l2 l3 t298 t302 t306 t310 bt312.1 bt314.1 bt316.1 bt318.1 bt320.1 bt322.1 (bt322.2 != 0) a0_0 a0_1 a0_2 a0_3) else (none)) else (none)) else (none)) else (none)) else (none)) else (none)) else (none)) else (none)) else (none)))))))) = some r := H
                    have A35 := Aside0.mk A350
                    clear A350
                    replace H := Option.bind_eq_some_iff.mp H
                    obtain ⟨⟨t312, t313⟩, A360, H⟩ := H
                    replace H : ((vector_Below.f kj12 a0_0 a0_1 a0_2 a0_3 l1 l2).bind fun bt314 => ((vector_Below.f kj12 a0_0 a0_1 a0_2 a0_3 l2 l1).bind fun bt316 => ((vector_Below.f kj12 a0_0 a0_1 a0_2 a0_3 l1 l3).bind fun bt318 => ((vector_Below.f kj12 a0_0 a0_1 a0_2 a0_3 l2 l3).bind fun bt320 => ((vector_Below.f kj12 a0_0 a0_1 a0_2 a0_3 t298 l3).bind fun bt322 => (if t301 = 0 then (if t305 = 0 then (if t309 = 0 then (if t311 = 0 then (if t313 = 0 then (if bt314.2 = 0 then (if bt316.2 = 0 then (if bt318.2 = 0 then (if bt320.2 = 0 then (twoslotlaw07_VectorOrder.j2 kj12 l1 l2 l3 t298 t302 t306 t310 t312 bt314.1 bt316.1 bt318.1 bt320.1 bt322.1 (bt322.2 != 0) a0_0 a0_1 a0_2 a0_3) else (none)) else (none)) else (none)) else (none)) else (none)) else (none)) else (none)) else (none)) else (none))))))) = some r := H
                    have A36 := Aside0.mk A360
                    clear A360
                    replace H := Option.bind_eq_some_iff.mp H
                    obtain ⟨⟨t314, t315⟩, A370, H⟩ := H
                    replace H : ((vector_Below.f kj12 a0_0 a0_1 a0_2 a0_3 l2 l1).bind fun bt316 => ((vector_Below.f kj12 a0_0 a0_1 a0_2 a0_3 l1 l3).bind fun bt318 => ((vector_Below.f kj12 a0_0 a0_1 a0_2 a0_3 l2 l3).bind fun bt320 => ((vector_Below.f kj12 a0_0 a0_1 a0_2 a0_3 t298 l3).bind fun bt322 => (if t301 = 0 then (if t305 = 0 then (if t309 = 0 then (if t311 = 0 then (if t313 = 0 then (if t315 = 0 then (if bt316.2 = 0 then (if bt318.2 = 0 then (if bt320.2 = 0 then (twoslotlaw07_VectorOrder.j2 kj12 l1 l2 l3 t298 t302 t306 t310 t312 t314 bt316.1 bt318.1 bt320.1 bt322.1 (bt322.2 != 0) a0_0 a0_1 a0_2 a0_3) else (none)) else (none)) else (none)) else (none)) else (none)) else (none)) else (none)) else (none)) else (none)))))) = some r := H
                    have A37 := Aside0.mk A370
                    clear A370
                    replace H := Option.bind_eq_some_iff.mp H
                    obtain ⟨⟨t316, t317⟩, A380, H⟩ := H
                    replace H : ((vector_Below.f kj12 a0_0 a0_1 a0_2 a0_3 l1 l3).bind fun bt318 => ((vector_Below.f kj12 a0_0 a0_1 a0_2 a0_3 l2 l3).bind fun bt320 => ((vector_Below.f kj12 a0_0 a0_1 a0_2 a0_3 t298 l3).bind fun bt322 => (if t301 = 0 then (if t305 = 0 then (if t309 = 0 then (if t311 = 0 then (if t313 = 0 then (if t315 = 0 then (if t317 = 0 then (if bt318.2 = 0 then (if bt320.2 = 0 then (twoslotlaw07_VectorOrder.j2 kj12 l1 l2 l3 t298 t302 t306 t310 t312 t314 t316 bt318.1 bt320.1 bt322.1 (bt322.2 != 0) a0_0 a0_1 a0_2 a0_3) else (none)) else (none)) else (none)) else (none)) else (none)) else (none)) else (none)) else (none)) else (none))))) = some r := H
                    have A38 := Aside0.mk A380
                    clear A380
                    replace H := Option.bind_eq_some_iff.mp H
                    obtain ⟨⟨t318, t319⟩, A390, H⟩ := H
                    replace H : ((vector_Below.f kj12 a0_0 a0_1 a0_2 a0_3 l2 l3).bind fun bt320 => ((vector_Below.f kj12 a0_0 a0_1 a0_2 a0_3 t298 l3).bind fun bt322 => (if t301 = 0 then (if t305 = 0 then (if t309 = 0 then (if t311 = 0 then (if t313 = 0 then (if t315 = 0 then (if t317 = 0 then (if t319 = 0 then (if bt320.2 = 0 then (twoslotlaw07_VectorOrder.j2 kj12 l1 l2 l3 t298 t302 t306 t310 t312 t314 t316 t318 bt320.1 bt322.1 (bt322.2 != 0) a0_0 a0_1 a0_2 a0_3) else (none)) else (none)) else (none)) else (none)) else (none)) else (none)) else (none)) else (none)) else (none)))) = some r := H
                    have A39 := Aside0.mk A390
                    clear A390
                    replace H := Option.bind_eq_some_iff.mp H
                    obtain ⟨⟨t320, t321⟩, A400, H⟩ := H
                    replace H : ((vector_Below.f kj12 a0_0 a0_1 a0_2 a0_3 t298 l3).bind fun bt322 => (if t301 = 0 then (if t305 = 0 then (if t309 = 0 then (if t311 = 0 then (if t313 = 0 then (if t315 = 0 then (if t317 = 0 then (if t319 = 0 then (if t321 = 0 then (twoslotlaw07_VectorOrder.j2 kj12 l1 l2 l3 t298 t302 t306 t310 t312 t314 t316 t318 t320 bt322.1 (bt322.2 != 0) a0_0 a0_1 a0_2 a0_3) else (none)) else (none)) else (none)) else (none)) else (none)) else (none)) else (none)) else (none)) else (none))) = some r := H
                    have A40 := Aside0.mk A400
                    clear A400
                    replace H := Option.bind_eq_some_iff.mp H
                    obtain ⟨⟨t322, t323⟩, A410, H⟩ := H
                    replace H : (if t301 = 0 then (if t305 = 0 then (if t309 = 0 then (if t311 = 0 then (if t313 = 0 then (if t315 = 0 then (if t317 = 0 then (if t319 = 0 then (if t321 = 0 then (twoslotlaw07_VectorOrder.j2 kj12 l1 l2 l3 t298 t302 t306 t310 t312 t314 t316 t318 t320 t322 (t323 != 0) a0_0 a0_1 a0_2 a0_3) else (none)) else (none)) else (none)) else (none)) else (none)) else (none)) else (none)) else (none)) else (none)) = some r := H
                    have A41 := Aside0.mk A410
                    clear A410
                    have HC42 := Aside0.mk H
                    clear H
                    have hcz43_0 : wc.cell? ⟨gb293, 0, none⟩ = some (.int .i64 a0_0) := (blk_cell BK293.out 0).trans rfl
                    have hcz43_1 : wc.cell? ⟨gb293, 1, none⟩ = some (.int .i64 a0_1) := (blk_cell BK293.out 1).trans rfl
                    have hcz43_2 : wc.cell? ⟨gb293, 2, none⟩ = some (.int .i64 a0_2) := (blk_cell BK293.out 2).trans rfl
                    have hcz43_3 : wc.cell? ⟨gb293, 3, none⟩ = some (.int .i64 a0_3) := (blk_cell BK293.out 3).trans rfl
                    have hfz43_0 := blk_frozen BK293.out 0
                    have hfz43_1 := blk_frozen BK293.out 1
                    have hfz43_2 := blk_frozen BK293.out 2
                    have hfz43_3 := blk_frozen BK293.out 3
                    go_upto_region 18 with (first | ((with_reducible refine gate_callee (f := 13) rfl ?_); refine goesL_ (some 72) rfl rfl Try.func13 (by kernel_rfl) rfl #[.agg #[.int .i64 a0_0, .int .i64 a0_1, .int .i64 a0_2, .int .i64 a0_3], .slice A1 l1.length c1, .slice A2 l2.length c2] rfl (by (try simp only [List.map_toArray, List.map_cons, List.map_nil]); first | done | rfl | (simp only [List.length_drop, List.length_take]; rfl)) ?_; (with_reducible refine (vector_Join.calls kj12 a0_0 a0_1 a0_2 a0_3 _ _ l1 _ _ l2 t298 t301 _ ?side1 ?side2 ?side3 ?side4 A32.out).mono ?_); (case side1 => repeat (first | exact (Kd.C_below HR1.out HB.out) | (with_reducible refine Kd.C_alloc ?_ _) | (with_reducible refine Kd.C_drewN ?_ _) | (with_reducible refine Kd.C_drew ?_))); (case side2 => exact HC1.out); (case side3 => repeat (first | exact (Kd.C_below HR2.out HB.out) | (with_reducible refine Kd.C_alloc ?_ _) | (with_reducible refine Kd.C_drewN ?_ _) | (with_reducible refine Kd.C_drew ?_))); (case side4 => exact HC2.out); rintro e w44 ⟨v299, rfl, ho0, hb⟩; refine ⟨_, rfl, ?_⟩; have n0_ := Aside0.mk (Kd.R_lower ho0 (below_size (by repeat (first | (with_reducible first | exact HB.out | apply below_alloc | apply pw_below_drewN | apply below_drew1 | refine below_set ?_ GE293.out) | exact HB.out)))); have n1_ := Aside0.mk (blk_below (g := gb293) (o := .cells #[.int .i64 a0_0, .int .i64 a0_1, .int .i64 a0_2, .int .i64 a0_3] 24 (0, 0)) (by (with_reducible repeat (first | refine blk_drewN ?_ _ | refine blk_drew ?_ | refine blk_alloc ?_ _)); exact BK293.out) hb); have n2_ := Aside0.mk (below_step (by repeat (first | (with_reducible first | exact HB.out | apply below_alloc | apply pw_below_drewN | apply below_drew1 | refine below_set ?_ GE293.out) | exact HB.out)) hb); clear BK293; clear HB; have HO300 := n0_; have BK293 := n1_; have HB := n2_; clear n0_ n1_ n2_; (try clear hb); (try clear hb2); (try clear hk); (try clear hi); (try clear ho0); have hcz45_0 : w44.cell? ⟨gb293, 0, none⟩ = some (.int .i64 a0_0) := (blk_cell BK293.out 0).trans rfl; have hcz45_1 : w44.cell? ⟨gb293, 1, none⟩ = some (.int .i64 a0_1) := (blk_cell BK293.out 1).trans rfl; have hcz45_2 : w44.cell? ⟨gb293, 2, none⟩ = some (.int .i64 a0_2) := (blk_cell BK293.out 2).trans rfl; have hcz45_3 : w44.cell? ⟨gb293, 3, none⟩ = some (.int .i64 a0_3) := (blk_cell BK293.out 3).trans rfl; have hfz45_0 := blk_frozen BK293.out 0; have hfz45_1 := blk_frozen BK293.out 1; have hfz45_2 := blk_frozen BK293.out 2; have hfz45_3 := blk_frozen BK293.out 3) | ((with_reducible refine gate_callee (f := 13) rfl ?_); refine goesL_ (some 79) rfl rfl Try.func13 (by kernel_rfl) rfl #[.agg #[.int .i64 a0_0, .int .i64 a0_1, .int .i64 a0_2, .int .i64 a0_3], .slice A2 l2.length c2, .slice A1 l1.length c1] rfl (by (try simp only [List.map_toArray, List.map_cons, List.map_nil]); first | done | rfl | (simp only [List.length_drop, List.length_take]; rfl)) ?_; (with_reducible refine (vector_Join.calls kj12 a0_0 a0_1 a0_2 a0_3 _ _ l2 _ _ l1 t302 t305 _ ?side1 ?side2 ?side3 ?side4 A33.out).mono ?_); (case side1 => repeat (first | exact (Kd.C_below HR2.out HB.out) | (with_reducible refine Kd.C_alloc ?_ _) | (with_reducible refine Kd.C_drewN ?_ _) | (with_reducible refine Kd.C_drew ?_))); (case side2 => exact HC2.out); (case side3 => repeat (first | exact (Kd.C_below HR1.out HB.out) | (with_reducible refine Kd.C_alloc ?_ _) | (with_reducible refine Kd.C_drewN ?_ _) | (with_reducible refine Kd.C_drew ?_))); (case side4 => exact HC1.out); rintro e w46 ⟨v303, rfl, ho0, hb⟩; refine ⟨_, rfl, ?_⟩; have n0_ := Aside0.mk (Kd.R_elder' (by (with_reducible repeat (first | apply Kd.R_alloc | apply Kd.R_drewN | apply Kd.R_drew)); exact HO300.out) (Kd.R_base ho0) hb); have n1_ := Aside0.mk (Kd.R_lower (Kd.R_new' ho0 (Kd.R_lt (by (with_reducible repeat (first | apply Kd.R_alloc | apply Kd.R_drewN | apply Kd.R_drew)); exact HO300.out))) (below_size (by repeat (first | (with_reducible first | exact HB.out | apply below_alloc | apply pw_below_drewN | apply below_drew1 | refine below_set ?_ GE293.out) | exact HB.out)))); have n2_ := Aside0.mk (blk_below (g := gb293) (o := .cells #[.int .i64 a0_0, .int .i64 a0_1, .int .i64 a0_2, .int .i64 a0_3] 24 (0, 0)) (by (with_reducible repeat (first | refine blk_drewN ?_ _ | refine blk_drew ?_ | refine blk_alloc ?_ _)); exact BK293.out) hb); have n3_ := Aside0.mk (below_step (by repeat (first | (with_reducible first | exact HB.out | apply below_alloc | apply pw_below_drewN | apply below_drew1 | refine below_set ?_ GE293.out) | exact HB.out)) hb); clear HO300; clear BK293; clear HB; have HO300 := n0_; have HO304 := n1_; have BK293 := n2_; have HB := n3_; clear n0_ n1_ n2_ n3_; (try clear hb); (try clear hb2); (try clear hk); (try clear hi); (try clear ho0); have hcz47_0 : w46.cell? ⟨gb293, 0, none⟩ = some (.int .i64 a0_0) := (blk_cell BK293.out 0).trans rfl; have hcz47_1 : w46.cell? ⟨gb293, 1, none⟩ = some (.int .i64 a0_1) := (blk_cell BK293.out 1).trans rfl; have hcz47_2 : w46.cell? ⟨gb293, 2, none⟩ = some (.int .i64 a0_2) := (blk_cell BK293.out 2).trans rfl; have hcz47_3 : w46.cell? ⟨gb293, 3, none⟩ = some (.int .i64 a0_3) := (blk_cell BK293.out 3).trans rfl; have hfz47_0 := blk_frozen BK293.out 0; have hfz47_1 := blk_frozen BK293.out 1; have hfz47_2 := blk_frozen BK293.out 2; have hfz47_3 := blk_frozen BK293.out 3) | ((with_reducible refine gate_callee (f := 13) rfl ?_); refine goesL_ (some 86) rfl rfl Try.func13 (by kernel_rfl) rfl #[.agg #[.int .i64 a0_0, .int .i64 a0_1, .int .i64 a0_2, .int .i64 a0_3], .slice A1 l1.length c1, .slice A1 l1.length c1] rfl (by (try simp only [List.map_toArray, List.map_cons, List.map_nil]); first | done | rfl | (simp only [List.length_drop, List.length_take]; rfl)) ?_; (with_reducible refine (vector_Join.calls kj12 a0_0 a0_1 a0_2 a0_3 _ _ l1 _ _ l1 t306 t309 _ ?side1 ?side2 ?side3 ?side4 A34.out).mono ?_); (case side1 => repeat (first | exact (Kd.C_below HR1.out HB.out) | (with_reducible refine Kd.C_alloc ?_ _) | (with_reducible refine Kd.C_drewN ?_ _) | (with_reducible refine Kd.C_drew ?_))); (case side2 => exact HC1.out); (case side3 => repeat (first | exact (Kd.C_below HR1.out HB.out) | (with_reducible refine Kd.C_alloc ?_ _) | (with_reducible refine Kd.C_drewN ?_ _) | (with_reducible refine Kd.C_drew ?_))); (case side4 => exact HC1.out); rintro e w48 ⟨v307, rfl, ho0, hb⟩; refine ⟨_, rfl, ?_⟩; have n0_ := Aside0.mk (Kd.R_elder' (by (with_reducible repeat (first | apply Kd.R_alloc | apply Kd.R_drewN | apply Kd.R_drew)); exact HO300.out) (Kd.R_base ho0) hb); have n1_ := Aside0.mk (Kd.R_elder' (by (with_reducible repeat (first | apply Kd.R_alloc | apply Kd.R_drewN | apply Kd.R_drew)); exact HO304.out) (Kd.R_base ho0) hb); have n2_ := Aside0.mk (Kd.R_lower (Kd.R_new' (Kd.R_new' ho0 (Kd.R_lt (by (with_reducible repeat (first | apply Kd.R_alloc | apply Kd.R_drewN | apply Kd.R_drew)); exact HO300.out))) (Kd.R_lt (by (with_reducible repeat (first | apply Kd.R_alloc | apply Kd.R_drewN | apply Kd.R_drew)); exact HO304.out))) (below_size (by repeat (first | (with_reducible first | exact HB.out | apply below_alloc | apply pw_below_drewN | apply below_drew1 | refine below_set ?_ GE293.out) | exact HB.out)))); have n3_ := Aside0.mk (blk_below (g := gb293) (o := .cells #[.int .i64 a0_0, .int .i64 a0_1, .int .i64 a0_2, .int .i64 a0_3] 24 (0, 0)) (by (with_reducible repeat (first | refine blk_drewN ?_ _ | refine blk_drew ?_ | refine blk_alloc ?_ _)); exact BK293.out) hb); have n4_ := Aside0.mk (below_step (by repeat (first | (with_reducible first | exact HB.out | apply below_alloc | apply pw_below_drewN | apply below_drew1 | refine below_set ?_ GE293.out) | exact HB.out)) hb); clear HO300; clear HO304; clear BK293; clear HB; have HO300 := n0_; have HO304 := n1_; have HO308 := n2_; have BK293 := n3_; have HB := n4_; clear n0_ n1_ n2_ n3_ n4_; (try clear hb); (try clear hb2); (try clear hk); (try clear hi); (try clear ho0); have hcz49_0 : w48.cell? ⟨gb293, 0, none⟩ = some (.int .i64 a0_0) := (blk_cell BK293.out 0).trans rfl; have hcz49_1 : w48.cell? ⟨gb293, 1, none⟩ = some (.int .i64 a0_1) := (blk_cell BK293.out 1).trans rfl; have hcz49_2 : w48.cell? ⟨gb293, 2, none⟩ = some (.int .i64 a0_2) := (blk_cell BK293.out 2).trans rfl; have hcz49_3 : w48.cell? ⟨gb293, 3, none⟩ = some (.int .i64 a0_3) := (blk_cell BK293.out 3).trans rfl; have hfz49_0 := blk_frozen BK293.out 0; have hfz49_1 := blk_frozen BK293.out 1; have hfz49_2 := blk_frozen BK293.out 2; have hfz49_3 := blk_frozen BK293.out 3; obtain ⟨Ao50, co50, eo50⟩ := Kd.R_slice HO300.out; subst eo50) | ((with_reducible refine gate_callee (f := 14) rfl ?_); refine goesL_ (some 93) rfl rfl Try.func14 (by kernel_rfl) rfl #[.agg #[.int .i64 a0_0, .int .i64 a0_1, .int .i64 a0_2, .int .i64 a0_3], .slice A1 l1.length c1, .slice Ao50 t298.length co50] rfl (by (try simp only [List.map_toArray, List.map_cons, List.map_nil]); first | done | rfl | (simp only [List.length_drop, List.length_take]; rfl)) ?_; (with_reducible refine (vector_Below.calls kj12 a0_0 a0_1 a0_2 a0_3 _ _ l1 _ _ t298 t310 t311 _ ?side1 ?side2 ?side3 ?side4 A35.out).mono ?_); (case side1 => repeat (first | exact (Kd.C_below HR1.out HB.out) | (with_reducible refine Kd.C_alloc ?_ _) | (with_reducible refine Kd.C_drewN ?_ _) | (with_reducible refine Kd.C_drew ?_))); (case side2 => exact HC1.out); (case side3 => repeat (first | exact (Kd.R_reads' HO300.out).2.2 | (with_reducible refine Kd.C_alloc ?_ _) | (with_reducible refine Kd.C_drewN ?_ _) | (with_reducible refine Kd.C_drew ?_))); (case side4 => exact (Kd.R_reads' HO300.out).2.1); rintro e w51 ⟨rfl, hb⟩; refine ⟨_, rfl, ?_⟩; have n0_ := Aside0.mk (Kd.R_below (by (with_reducible repeat (first | apply Kd.R_alloc | apply Kd.R_drewN | apply Kd.R_drew)); exact HO300.out) hb); have n1_ := Aside0.mk (Kd.R_below (by (with_reducible repeat (first | apply Kd.R_alloc | apply Kd.R_drewN | apply Kd.R_drew)); exact HO304.out) hb); have n2_ := Aside0.mk (Kd.R_below (by (with_reducible repeat (first | apply Kd.R_alloc | apply Kd.R_drewN | apply Kd.R_drew)); exact HO308.out) hb); have n3_ := Aside0.mk (blk_below (g := gb293) (o := .cells #[.int .i64 a0_0, .int .i64 a0_1, .int .i64 a0_2, .int .i64 a0_3] 24 (0, 0)) (by (with_reducible repeat (first | refine blk_drewN ?_ _ | refine blk_drew ?_ | refine blk_alloc ?_ _)); exact BK293.out) hb); have n4_ := Aside0.mk (below_step (by repeat (first | (with_reducible first | exact HB.out | apply below_alloc | apply pw_below_drewN | apply below_drew1 | refine below_set ?_ GE293.out) | exact HB.out)) hb); clear HO300; clear HO304; clear HO308; clear BK293; clear HB; have HO300 := n0_; have HO304 := n1_; have HO308 := n2_; have BK293 := n3_; have HB := n4_; clear n0_ n1_ n2_ n3_ n4_; (try clear hb); (try clear hb2); (try clear hk); (try clear hi); have hcz52_0 : w51.cell? ⟨gb293, 0, none⟩ = some (.int .i64 a0_0) := (blk_cell BK293.out 0).trans rfl; have hcz52_1 : w51.cell? ⟨gb293, 1, none⟩ = some (.int .i64 a0_1) := (blk_cell BK293.out 1).trans rfl; have hcz52_2 : w51.cell? ⟨gb293, 2, none⟩ = some (.int .i64 a0_2) := (blk_cell BK293.out 2).trans rfl; have hcz52_3 : w51.cell? ⟨gb293, 3, none⟩ = some (.int .i64 a0_3) := (blk_cell BK293.out 3).trans rfl; have hfz52_0 := blk_frozen BK293.out 0; have hfz52_1 := blk_frozen BK293.out 1; have hfz52_2 := blk_frozen BK293.out 2; have hfz52_3 := blk_frozen BK293.out 3) | ((with_reducible refine gate_callee (f := 14) rfl ?_); refine goesL_ (some 100) rfl rfl Try.func14 (by kernel_rfl) rfl #[.agg #[.int .i64 a0_0, .int .i64 a0_1, .int .i64 a0_2, .int .i64 a0_3], .slice A2 l2.length c2, .slice Ao50 t298.length co50] rfl (by (try simp only [List.map_toArray, List.map_cons, List.map_nil]); first | done | rfl | (simp only [List.length_drop, List.length_take]; rfl)) ?_; (with_reducible refine (vector_Below.calls kj12 a0_0 a0_1 a0_2 a0_3 _ _ l2 _ _ t298 t312 t313 _ ?side1 ?side2 ?side3 ?side4 A36.out).mono ?_); (case side1 => repeat (first | exact (Kd.C_below HR2.out HB.out) | (with_reducible refine Kd.C_alloc ?_ _) | (with_reducible refine Kd.C_drewN ?_ _) | (with_reducible refine Kd.C_drew ?_))); (case side2 => exact HC2.out); (case side3 => repeat (first | exact (Kd.R_reads' HO300.out).2.2 | (with_reducible refine Kd.C_alloc ?_ _) | (with_reducible refine Kd.C_drewN ?_ _) | (with_reducible refine Kd.C_drew ?_))); (case side4 => exact (Kd.R_reads' HO300.out).2.1); rintro e w53 ⟨rfl, hb⟩; refine ⟨_, rfl, ?_⟩; have n0_ := Aside0.mk (Kd.R_below (by (with_reducible repeat (first | apply Kd.R_alloc | apply Kd.R_drewN | apply Kd.R_drew)); exact HO300.out) hb); have n1_ := Aside0.mk (Kd.R_below (by (with_reducible repeat (first | apply Kd.R_alloc | apply Kd.R_drewN | apply Kd.R_drew)); exact HO304.out) hb); have n2_ := Aside0.mk (Kd.R_below (by (with_reducible repeat (first | apply Kd.R_alloc | apply Kd.R_drewN | apply Kd.R_drew)); exact HO308.out) hb); have n3_ := Aside0.mk (blk_below (g := gb293) (o := .cells #[.int .i64 a0_0, .int .i64 a0_1, .int .i64 a0_2, .int .i64 a0_3] 24 (0, 0)) (by (with_reducible repeat (first | refine blk_drewN ?_ _ | refine blk_drew ?_ | refine blk_alloc ?_ _)); exact BK293.out) hb); have n4_ := Aside0.mk (below_step (by repeat (first | (with_reducible first | exact HB.out | apply below_alloc | apply pw_below_drewN | apply below_drew1 | refine below_set ?_ GE293.out) | exact HB.out)) hb); clear HO300; clear HO304; clear HO308; clear BK293; clear HB; have HO300 := n0_; have HO304 := n1_; have HO308 := n2_; have BK293 := n3_; have HB := n4_; clear n0_ n1_ n2_ n3_ n4_; (try clear hb); (try clear hb2); (try clear hk); (try clear hi); have hcz54_0 : w53.cell? ⟨gb293, 0, none⟩ = some (.int .i64 a0_0) := (blk_cell BK293.out 0).trans rfl; have hcz54_1 : w53.cell? ⟨gb293, 1, none⟩ = some (.int .i64 a0_1) := (blk_cell BK293.out 1).trans rfl; have hcz54_2 : w53.cell? ⟨gb293, 2, none⟩ = some (.int .i64 a0_2) := (blk_cell BK293.out 2).trans rfl; have hcz54_3 : w53.cell? ⟨gb293, 3, none⟩ = some (.int .i64 a0_3) := (blk_cell BK293.out 3).trans rfl; have hfz54_0 := blk_frozen BK293.out 0; have hfz54_1 := blk_frozen BK293.out 1; have hfz54_2 := blk_frozen BK293.out 2; have hfz54_3 := blk_frozen BK293.out 3) | ((with_reducible refine gate_callee (f := 14) rfl ?_); refine goesL_ (some 107) rfl rfl Try.func14 (by kernel_rfl) rfl #[.agg #[.int .i64 a0_0, .int .i64 a0_1, .int .i64 a0_2, .int .i64 a0_3], .slice A1 l1.length c1, .slice A2 l2.length c2] rfl (by (try simp only [List.map_toArray, List.map_cons, List.map_nil]); first | done | rfl | (simp only [List.length_drop, List.length_take]; rfl)) ?_; (with_reducible refine (vector_Below.calls kj12 a0_0 a0_1 a0_2 a0_3 _ _ l1 _ _ l2 t314 t315 _ ?side1 ?side2 ?side3 ?side4 A37.out).mono ?_); (case side1 => repeat (first | exact (Kd.C_below HR1.out HB.out) | (with_reducible refine Kd.C_alloc ?_ _) | (with_reducible refine Kd.C_drewN ?_ _) | (with_reducible refine Kd.C_drew ?_))); (case side2 => exact HC1.out); (case side3 => repeat (first | exact (Kd.C_below HR2.out HB.out) | (with_reducible refine Kd.C_alloc ?_ _) | (with_reducible refine Kd.C_drewN ?_ _) | (with_reducible refine Kd.C_drew ?_))); (case side4 => exact HC2.out); rintro e w55 ⟨rfl, hb⟩; refine ⟨_, rfl, ?_⟩; have n0_ := Aside0.mk (Kd.R_below (by (with_reducible repeat (first | apply Kd.R_alloc | apply Kd.R_drewN | apply Kd.R_drew)); exact HO300.out) hb); have n1_ := Aside0.mk (Kd.R_below (by (with_reducible repeat (first | apply Kd.R_alloc | apply Kd.R_drewN | apply Kd.R_drew)); exact HO304.out) hb); have n2_ := Aside0.mk (Kd.R_below (by (with_reducible repeat (first | apply Kd.R_alloc | apply Kd.R_drewN | apply Kd.R_drew)); exact HO308.out) hb); have n3_ := Aside0.mk (blk_below (g := gb293) (o := .cells #[.int .i64 a0_0, .int .i64 a0_1, .int .i64 a0_2, .int .i64 a0_3] 24 (0, 0)) (by (with_reducible repeat (first | refine blk_drewN ?_ _ | refine blk_drew ?_ | refine blk_alloc ?_ _)); exact BK293.out) hb); have n4_ := Aside0.mk (below_step (by repeat (first | (with_reducible first | exact HB.out | apply below_alloc | apply pw_below_drewN | apply below_drew1 | refine below_set ?_ GE293.out) | exact HB.out)) hb); clear HO300; clear HO304; clear HO308; clear BK293; clear HB; have HO300 := n0_; have HO304 := n1_; have HO308 := n2_; have BK293 := n3_; have HB := n4_; clear n0_ n1_ n2_ n3_ n4_; (try clear hb); (try clear hb2); (try clear hk); (try clear hi); have hcz56_0 : w55.cell? ⟨gb293, 0, none⟩ = some (.int .i64 a0_0) := (blk_cell BK293.out 0).trans rfl; have hcz56_1 : w55.cell? ⟨gb293, 1, none⟩ = some (.int .i64 a0_1) := (blk_cell BK293.out 1).trans rfl; have hcz56_2 : w55.cell? ⟨gb293, 2, none⟩ = some (.int .i64 a0_2) := (blk_cell BK293.out 2).trans rfl; have hcz56_3 : w55.cell? ⟨gb293, 3, none⟩ = some (.int .i64 a0_3) := (blk_cell BK293.out 3).trans rfl; have hfz56_0 := blk_frozen BK293.out 0; have hfz56_1 := blk_frozen BK293.out 1; have hfz56_2 := blk_frozen BK293.out 2; have hfz56_3 := blk_frozen BK293.out 3) | ((with_reducible refine gate_callee (f := 14) rfl ?_); refine goesL_ (some 114) rfl rfl Try.func14 (by kernel_rfl) rfl #[.agg #[.int .i64 a0_0, .int .i64 a0_1, .int .i64 a0_2, .int .i64 a0_3], .slice A2 l2.length c2, .slice A1 l1.length c1] rfl (by (try simp only [List.map_toArray, List.map_cons, List.map_nil]); first | done | rfl | (simp only [List.length_drop, List.length_take]; rfl)) ?_; (with_reducible refine (vector_Below.calls kj12 a0_0 a0_1 a0_2 a0_3 _ _ l2 _ _ l1 t316 t317 _ ?side1 ?side2 ?side3 ?side4 A38.out).mono ?_); (case side1 => repeat (first | exact (Kd.C_below HR2.out HB.out) | (with_reducible refine Kd.C_alloc ?_ _) | (with_reducible refine Kd.C_drewN ?_ _) | (with_reducible refine Kd.C_drew ?_))); (case side2 => exact HC2.out); (case side3 => repeat (first | exact (Kd.C_below HR1.out HB.out) | (with_reducible refine Kd.C_alloc ?_ _) | (with_reducible refine Kd.C_drewN ?_ _) | (with_reducible refine Kd.C_drew ?_))); (case side4 => exact HC1.out); rintro e w57 ⟨rfl, hb⟩; refine ⟨_, rfl, ?_⟩; have n0_ := Aside0.mk (Kd.R_below (by (with_reducible repeat (first | apply Kd.R_alloc | apply Kd.R_drewN | apply Kd.R_drew)); exact HO300.out) hb); have n1_ := Aside0.mk (Kd.R_below (by (with_reducible repeat (first | apply Kd.R_alloc | apply Kd.R_drewN | apply Kd.R_drew)); exact HO304.out) hb); have n2_ := Aside0.mk (Kd.R_below (by (with_reducible repeat (first | apply Kd.R_alloc | apply Kd.R_drewN | apply Kd.R_drew)); exact HO308.out) hb); have n3_ := Aside0.mk (blk_below (g := gb293) (o := .cells #[.int .i64 a0_0, .int .i64 a0_1, .int .i64 a0_2, .int .i64 a0_3] 24 (0, 0)) (by (with_reducible repeat (first | refine blk_drewN ?_ _ | refine blk_drew ?_ | refine blk_alloc ?_ _)); exact BK293.out) hb); have n4_ := Aside0.mk (below_step (by repeat (first | (with_reducible first | exact HB.out | apply below_alloc | apply pw_below_drewN | apply below_drew1 | refine below_set ?_ GE293.out) | exact HB.out)) hb); clear HO300; clear HO304; clear HO308; clear BK293; clear HB; have HO300 := n0_; have HO304 := n1_; have HO308 := n2_; have BK293 := n3_; have HB := n4_; clear n0_ n1_ n2_ n3_ n4_; (try clear hb); (try clear hb2); (try clear hk); (try clear hi); have hcz58_0 : w57.cell? ⟨gb293, 0, none⟩ = some (.int .i64 a0_0) := (blk_cell BK293.out 0).trans rfl; have hcz58_1 : w57.cell? ⟨gb293, 1, none⟩ = some (.int .i64 a0_1) := (blk_cell BK293.out 1).trans rfl; have hcz58_2 : w57.cell? ⟨gb293, 2, none⟩ = some (.int .i64 a0_2) := (blk_cell BK293.out 2).trans rfl; have hcz58_3 : w57.cell? ⟨gb293, 3, none⟩ = some (.int .i64 a0_3) := (blk_cell BK293.out 3).trans rfl; have hfz58_0 := blk_frozen BK293.out 0; have hfz58_1 := blk_frozen BK293.out 1; have hfz58_2 := blk_frozen BK293.out 2; have hfz58_3 := blk_frozen BK293.out 3) | ((with_reducible refine gate_callee (f := 14) rfl ?_); refine goesL_ (some 121) rfl rfl Try.func14 (by kernel_rfl) rfl #[.agg #[.int .i64 a0_0, .int .i64 a0_1, .int .i64 a0_2, .int .i64 a0_3], .slice A1 l1.length c1, .slice A3 l3.length c3] rfl (by (try simp only [List.map_toArray, List.map_cons, List.map_nil]); first | done | rfl | (simp only [List.length_drop, List.length_take]; rfl)) ?_; (with_reducible refine (vector_Below.calls kj12 a0_0 a0_1 a0_2 a0_3 _ _ l1 _ _ l3 t318 t319 _ ?side1 ?side2 ?side3 ?side4 A39.out).mono ?_); (case side1 => repeat (first | exact (Kd.C_below HR1.out HB.out) | (with_reducible refine Kd.C_alloc ?_ _) | (with_reducible refine Kd.C_drewN ?_ _) | (with_reducible refine Kd.C_drew ?_))); (case side2 => exact HC1.out); (case side3 => repeat (first | exact (Kd.C_below HR3.out HB.out) | (with_reducible refine Kd.C_alloc ?_ _) | (with_reducible refine Kd.C_drewN ?_ _) | (with_reducible refine Kd.C_drew ?_))); (case side4 => exact HC3.out); rintro e w59 ⟨rfl, hb⟩; refine ⟨_, rfl, ?_⟩; have n0_ := Aside0.mk (Kd.R_below (by (with_reducible repeat (first | apply Kd.R_alloc | apply Kd.R_drewN | apply Kd.R_drew)); exact HO300.out) hb); have n1_ := Aside0.mk (Kd.R_below (by (with_reducible repeat (first | apply Kd.R_alloc | apply Kd.R_drewN | apply Kd.R_drew)); exact HO304.out) hb); have n2_ := Aside0.mk (Kd.R_below (by (with_reducible repeat (first | apply Kd.R_alloc | apply Kd.R_drewN | apply Kd.R_drew)); exact HO308.out) hb); have n3_ := Aside0.mk (blk_below (g := gb293) (o := .cells #[.int .i64 a0_0, .int .i64 a0_1, .int .i64 a0_2, .int .i64 a0_3] 24 (0, 0)) (by (with_reducible repeat (first | refine blk_drewN ?_ _ | refine blk_drew ?_ | refine blk_alloc ?_ _)); exact BK293.out) hb); have n4_ := Aside0.mk (below_step (by repeat (first | (with_reducible first | exact HB.out | apply below_alloc | apply pw_below_drewN | apply below_drew1 | refine below_set ?_ GE293.out) | exact HB.out)) hb); clear HO300; clear HO304; clear HO308; clear BK293; clear HB; have HO300 := n0_; have HO304 := n1_; have HO308 := n2_; have BK293 := n3_; have HB := n4_; clear n0_ n1_ n2_ n3_ n4_; (try clear hb); (try clear hb2); (try clear hk); (try clear hi); have hcz60_0 : w59.cell? ⟨gb293, 0, none⟩ = some (.int .i64 a0_0) := (blk_cell BK293.out 0).trans rfl; have hcz60_1 : w59.cell? ⟨gb293, 1, none⟩ = some (.int .i64 a0_1) := (blk_cell BK293.out 1).trans rfl; have hcz60_2 : w59.cell? ⟨gb293, 2, none⟩ = some (.int .i64 a0_2) := (blk_cell BK293.out 2).trans rfl; have hcz60_3 : w59.cell? ⟨gb293, 3, none⟩ = some (.int .i64 a0_3) := (blk_cell BK293.out 3).trans rfl; have hfz60_0 := blk_frozen BK293.out 0; have hfz60_1 := blk_frozen BK293.out 1; have hfz60_2 := blk_frozen BK293.out 2; have hfz60_3 := blk_frozen BK293.out 3) | ((with_reducible refine gate_callee (f := 14) rfl ?_); refine goesL_ (some 128) rfl rfl Try.func14 (by kernel_rfl) rfl #[.agg #[.int .i64 a0_0, .int .i64 a0_1, .int .i64 a0_2, .int .i64 a0_3], .slice A2 l2.length c2, .slice A3 l3.length c3] rfl (by (try simp only [List.map_toArray, List.map_cons, List.map_nil]); first | done | rfl | (simp only [List.length_drop, List.length_take]; rfl)) ?_; (with_reducible refine (vector_Below.calls kj12 a0_0 a0_1 a0_2 a0_3 _ _ l2 _ _ l3 t320 t321 _ ?side1 ?side2 ?side3 ?side4 A40.out).mono ?_); (case side1 => repeat (first | exact (Kd.C_below HR2.out HB.out) | (with_reducible refine Kd.C_alloc ?_ _) | (with_reducible refine Kd.C_drewN ?_ _) | (with_reducible refine Kd.C_drew ?_))); (case side2 => exact HC2.out); (case side3 => repeat (first | exact (Kd.C_below HR3.out HB.out) | (with_reducible refine Kd.C_alloc ?_ _) | (with_reducible refine Kd.C_drewN ?_ _) | (with_reducible refine Kd.C_drew ?_))); (case side4 => exact HC3.out); rintro e w61 ⟨rfl, hb⟩; refine ⟨_, rfl, ?_⟩; have n0_ := Aside0.mk (Kd.R_below (by (with_reducible repeat (first | apply Kd.R_alloc | apply Kd.R_drewN | apply Kd.R_drew)); exact HO300.out) hb); have n1_ := Aside0.mk (Kd.R_below (by (with_reducible repeat (first | apply Kd.R_alloc | apply Kd.R_drewN | apply Kd.R_drew)); exact HO304.out) hb); have n2_ := Aside0.mk (Kd.R_below (by (with_reducible repeat (first | apply Kd.R_alloc | apply Kd.R_drewN | apply Kd.R_drew)); exact HO308.out) hb); have n3_ := Aside0.mk (blk_below (g := gb293) (o := .cells #[.int .i64 a0_0, .int .i64 a0_1, .int .i64 a0_2, .int .i64 a0_3] 24 (0, 0)) (by (with_reducible repeat (first | refine blk_drewN ?_ _ | refine blk_drew ?_ | refine blk_alloc ?_ _)); exact BK293.out) hb); have n4_ := Aside0.mk (below_step (by repeat (first | (with_reducible first | exact HB.out | apply below_alloc | apply pw_below_drewN | apply below_drew1 | refine below_set ?_ GE293.out) | exact HB.out)) hb); clear HO300; clear HO304; clear HO308; clear BK293; clear HB; have HO300 := n0_; have HO304 := n1_; have HO308 := n2_; have BK293 := n3_; have HB := n4_; clear n0_ n1_ n2_ n3_ n4_; (try clear hb); (try clear hb2); (try clear hk); (try clear hi); have hcz62_0 : w61.cell? ⟨gb293, 0, none⟩ = some (.int .i64 a0_0) := (blk_cell BK293.out 0).trans rfl; have hcz62_1 : w61.cell? ⟨gb293, 1, none⟩ = some (.int .i64 a0_1) := (blk_cell BK293.out 1).trans rfl; have hcz62_2 : w61.cell? ⟨gb293, 2, none⟩ = some (.int .i64 a0_2) := (blk_cell BK293.out 2).trans rfl; have hcz62_3 : w61.cell? ⟨gb293, 3, none⟩ = some (.int .i64 a0_3) := (blk_cell BK293.out 3).trans rfl; have hfz62_0 := blk_frozen BK293.out 0; have hfz62_1 := blk_frozen BK293.out 1; have hfz62_2 := blk_frozen BK293.out 2; have hfz62_3 := blk_frozen BK293.out 3) | ((with_reducible refine gate_callee (f := 14) rfl ?_); refine goesL_ (some 135) rfl rfl Try.func14 (by kernel_rfl) rfl #[.agg #[.int .i64 a0_0, .int .i64 a0_1, .int .i64 a0_2, .int .i64 a0_3], .slice Ao50 t298.length co50, .slice A3 l3.length c3] rfl (by (try simp only [List.map_toArray, List.map_cons, List.map_nil]); first | done | rfl | (simp only [List.length_drop, List.length_take]; rfl)) ?_; (with_reducible refine (vector_Below.calls kj12 a0_0 a0_1 a0_2 a0_3 _ _ t298 _ _ l3 t322 t323 _ ?side1 ?side2 ?side3 ?side4 A41.out).mono ?_); (case side1 => repeat (first | exact (Kd.R_reads' HO300.out).2.2 | (with_reducible refine Kd.C_alloc ?_ _) | (with_reducible refine Kd.C_drewN ?_ _) | (with_reducible refine Kd.C_drew ?_))); (case side2 => exact (Kd.R_reads' HO300.out).2.1); (case side3 => repeat (first | exact (Kd.C_below HR3.out HB.out) | (with_reducible refine Kd.C_alloc ?_ _) | (with_reducible refine Kd.C_drewN ?_ _) | (with_reducible refine Kd.C_drew ?_))); (case side4 => exact HC3.out); rintro e w63 ⟨rfl, hb⟩; refine ⟨_, rfl, ?_⟩; have n0_ := Aside0.mk (Kd.R_below (by (with_reducible repeat (first | apply Kd.R_alloc | apply Kd.R_drewN | apply Kd.R_drew)); exact HO300.out) hb); have n1_ := Aside0.mk (Kd.R_below (by (with_reducible repeat (first | apply Kd.R_alloc | apply Kd.R_drewN | apply Kd.R_drew)); exact HO304.out) hb); have n2_ := Aside0.mk (Kd.R_below (by (with_reducible repeat (first | apply Kd.R_alloc | apply Kd.R_drewN | apply Kd.R_drew)); exact HO308.out) hb); have n3_ := Aside0.mk (blk_below (g := gb293) (o := .cells #[.int .i64 a0_0, .int .i64 a0_1, .int .i64 a0_2, .int .i64 a0_3] 24 (0, 0)) (by (with_reducible repeat (first | refine blk_drewN ?_ _ | refine blk_drew ?_ | refine blk_alloc ?_ _)); exact BK293.out) hb); have n4_ := Aside0.mk (below_step (by repeat (first | (with_reducible first | exact HB.out | apply below_alloc | apply pw_below_drewN | apply below_drew1 | refine below_set ?_ GE293.out) | exact HB.out)) hb); clear HO300; clear HO304; clear HO308; clear BK293; clear HB; have HO300 := n0_; have HO304 := n1_; have HO308 := n2_; have BK293 := n3_; have HB := n4_; clear n0_ n1_ n2_ n3_ n4_; (try clear hb); (try clear hb2); (try clear hk); (try clear hi)))
                    (try simp only [Act.put, List.setIfInBounds_toArray, List.set_cons_zero, List.set_cons_succ])
                    go_cut [175] (fun v175 wc => ∃ (kq : Nat) (x175_41 : Bool), v175 = .bool x175_41 ∧ Aside0 (twoslotlaw07_VectorOrder.j2 kq l1 l2 l3 t298 t302 t306 t310 t312 t314 t316 t318 t320 t322 x175_41 a0_0 a0_1 a0_2 a0_3 = some r) ∧ Aside0 (kq ≤ kj12) ∧ Aside0 (Kd.R (Kd.int .i64) 3 wc w.heap.size (fun k_ => some k_ ≠ (v303 : Value).ownBlock ∧ some k_ ≠ (v307 : Value).ownBlock) (.slice Ao50 t298.length co50) t298) ∧ Aside0 (Kd.R (Kd.int .i64) 3 wc w.heap.size (fun k_ => some k_ ≠ ((.slice Ao50 t298.length co50) : Value).ownBlock ∧ some k_ ≠ (v307 : Value).ownBlock) v303 t302) ∧ Aside0 (Kd.R (Kd.int .i64) 3 wc w.heap.size (fun k_ => some k_ ≠ ((.slice Ao50 t298.length co50) : Value).ownBlock ∧ some k_ ≠ (v303 : Value).ownBlock) v307 t306) ∧ Aside0 (wc.heap[gb293]? = some (.cells #[.int .i64 a0_0, .int .i64 a0_1, .int .i64 a0_2, .int .i64 a0_3] 24 (0, 0))) ∧ Aside0 (Below w.heap.size w wc))
                    case first =>
                      have H := HC42.out
                      clear HC42
                      by_cases c64 : t301 = 0
                      · rw [if_pos c64] at H
                        have c64b0 : (t301 == 0) = true := beq_iff_eq.mpr c64
                        have c64b1 : (t301 != 0) = false := bne_eq_false_iff_eq.mpr c64
                        clear c64
                        (first | rw [c64b0] | (simp only [i64_w, i32_w]; rw [c64b0]) | skip)
                        by_cases c65 : t305 = 0
                        · rw [if_pos c65] at H
                          have c65b0 : (t305 == 0) = true := beq_iff_eq.mpr c65
                          have c65b1 : (t305 != 0) = false := bne_eq_false_iff_eq.mpr c65
                          clear c65
                          by_cases c66 : t309 = 0
                          · rw [if_pos c66] at H
                            have c66b0 : (t309 == 0) = true := beq_iff_eq.mpr c66
                            have c66b1 : (t309 != 0) = false := bne_eq_false_iff_eq.mpr c66
                            clear c66
                            by_cases c67 : t311 = 0
                            · rw [if_pos c67] at H
                              have c67b0 : (t311 == 0) = true := beq_iff_eq.mpr c67
                              have c67b1 : (t311 != 0) = false := bne_eq_false_iff_eq.mpr c67
                              clear c67
                              by_cases c68 : t313 = 0
                              · rw [if_pos c68] at H
                                have c68b0 : (t313 == 0) = true := beq_iff_eq.mpr c68
                                have c68b1 : (t313 != 0) = false := bne_eq_false_iff_eq.mpr c68
                                clear c68
                                by_cases c69 : t315 = 0
                                · rw [if_pos c69] at H
                                  have c69b0 : (t315 == 0) = true := beq_iff_eq.mpr c69
                                  have c69b1 : (t315 != 0) = false := bne_eq_false_iff_eq.mpr c69
                                  clear c69
                                  by_cases c70 : t317 = 0
                                  · rw [if_pos c70] at H
                                    have c70b0 : (t317 == 0) = true := beq_iff_eq.mpr c70
                                    have c70b1 : (t317 != 0) = false := bne_eq_false_iff_eq.mpr c70
                                    clear c70
                                    by_cases c71 : t319 = 0
                                    · rw [if_pos c71] at H
                                      have c71b0 : (t319 == 0) = true := beq_iff_eq.mpr c71
                                      have c71b1 : (t319 != 0) = false := bne_eq_false_iff_eq.mpr c71
                                      clear c71
                                      by_cases c72 : t321 = 0
                                      · rw [if_pos c72] at H
                                        have c72b0 : (t321 == 0) = true := beq_iff_eq.mpr c72
                                        have c72b1 : (t321 != 0) = false := bne_eq_false_iff_eq.mpr c72
                                        clear c72
                                        have H' := Aside0.mk H
                                        clear H
                                        go_wp2
                                        go_meet
                                        case rel => exact ⟨_, ((t323 != 0)), (by first | rfl | (simp; done) | (simp [*]; done)), H', ⟨by have := HJ6.out; have := HJ12.out; first | omega | exact Nat.le_refl _⟩, ⟨by (with_reducible repeat (first | apply Kd.R_alloc | apply Kd.R_drewN | apply Kd.R_drew)); exact Kd.R_mono HO300.out (fun _ hk => ⟨hk.1.2, hk.2⟩)⟩, ⟨by (with_reducible repeat (first | apply Kd.R_alloc | apply Kd.R_drewN | apply Kd.R_drew)); exact Kd.R_mono HO304.out (fun _ hk => ⟨hk.1.2, hk.2⟩)⟩, ⟨by (with_reducible repeat (first | apply Kd.R_alloc | apply Kd.R_drewN | apply Kd.R_drew)); exact Kd.R_mono HO308.out (fun _ hk => ⟨hk.1.2, hk.2⟩)⟩, ⟨by (with_reducible repeat (first | refine blk_drewN ?_ _ | refine blk_drew ?_ | refine blk_alloc ?_ _)); exact BK293.out⟩, ⟨by repeat (first | (with_reducible first | exact HB.out | apply below_alloc | apply pw_below_drewN | apply below_drew1 | refine below_set ?_ GE293.out) | exact HB.out)⟩⟩
                                      · rw [if_neg c72] at H
                                        exact absurd H (by simp)
                                    · rw [if_neg c71] at H
                                      exact absurd H (by simp)
                                  · rw [if_neg c70] at H
                                    exact absurd H (by simp)
                                · rw [if_neg c69] at H
                                  exact absurd H (by simp)
                              · rw [if_neg c68] at H
                                exact absurd H (by simp)
                            · rw [if_neg c67] at H
                              exact absurd H (by simp)
                          · rw [if_neg c66] at H
                            exact absurd H (by simp)
                        · rw [if_neg c65] at H
                          exact absurd H (by simp)
                      · rw [if_neg c64] at H
                        exact absurd H (by simp)
                    case rest =>
                      as_aux_lemma =>
                        clear HC42
                        try clear c1
                        try clear c2
                        try clear p2
                        try clear c3
                        try clear c6
                        try clear c7
                        try clear c8
                        try clear c10
                        try clear c10b0
                        try clear c10b1
                        try clear c11
                        try clear c11b0
                        try clear c11b1
                        try clear c12
                        try clear c13
                        try clear c14
                        try clear c15
                        try clear c15b0
                        try clear c15b1
                        try clear c17
                        try clear c17b0
                        try clear c17b1
                        try clear c21
                        try clear c31
                        try clear c64
                        try clear c64b0
                        try clear c64b1
                        try clear c65
                        try clear c65b0
                        try clear c65b1
                        try clear c66
                        try clear c66b0
                        try clear c66b1
                        try clear c67
                        try clear c67b0
                        try clear c67b1
                        try clear c68
                        try clear c68b0
                        try clear c68b1
                        try clear c69
                        try clear c69b0
                        try clear c69b1
                        try clear c70
                        try clear c70b0
                        try clear c70b1
                        try clear c71
                        try clear c71b0
                        try clear c71b1
                        try clear c72
                        try clear c72b0
                        try clear c72b1
                        try clear hcz19_0
                        try clear hcz19_1
                        try clear hcz19_2
                        try clear hcz19_3
                        try clear hcz21_0
                        try clear hcz21_1
                        try clear hcz21_2
                        try clear hcz21_3
                        try clear hcz23_0
                        try clear hcz23_1
                        try clear hcz23_2
                        try clear hcz23_3
                        try clear hcz25_0
                        try clear hcz25_1
                        try clear hcz25_2
                        try clear hcz25_3
                        try clear hcz27_0
                        try clear hcz27_1
                        try clear hcz27_2
                        try clear hcz27_3
                        try clear hcz29_0
                        try clear hcz29_1
                        try clear hcz29_2
                        try clear hcz29_3
                        try clear hcz43_0
                        try clear hcz43_1
                        try clear hcz43_2
                        try clear hcz43_3
                        try clear hcz45_0
                        try clear hcz45_1
                        try clear hcz45_2
                        try clear hcz45_3
                        try clear hcz47_0
                        try clear hcz47_1
                        try clear hcz47_2
                        try clear hcz47_3
                        try clear hcz49_0
                        try clear hcz49_1
                        try clear hcz49_2
                        try clear hcz49_3
                        try clear hcz52_0
                        try clear hcz52_1
                        try clear hcz52_2
                        try clear hcz52_3
                        try clear hcz54_0
                        try clear hcz54_1
                        try clear hcz54_2
                        try clear hcz54_3
                        try clear hcz56_0
                        try clear hcz56_1
                        try clear hcz56_2
                        try clear hcz56_3
                        try clear hcz58_0
                        try clear hcz58_1
                        try clear hcz58_2
                        try clear hcz58_3
                        try clear hcz60_0
                        try clear hcz60_1
                        try clear hcz60_2
                        try clear hcz60_3
                        try clear hcz62_0
                        try clear hcz62_1
                        try clear hcz62_2
                        try clear hcz62_3
                        try clear hfz19_0
                        try clear hfz19_1
                        try clear hfz19_2
                        try clear hfz19_3
                        try clear hfz21_0
                        try clear hfz21_1
                        try clear hfz21_2
                        try clear hfz21_3
                        try clear hfz23_0
                        try clear hfz23_1
                        try clear hfz23_2
                        try clear hfz23_3
                        try clear hfz25_0
                        try clear hfz25_1
                        try clear hfz25_2
                        try clear hfz25_3
                        try clear hfz27_0
                        try clear hfz27_1
                        try clear hfz27_2
                        try clear hfz27_3
                        try clear hfz29_0
                        try clear hfz29_1
                        try clear hfz29_2
                        try clear hfz29_3
                        try clear hfz43_0
                        try clear hfz43_1
                        try clear hfz43_2
                        try clear hfz43_3
                        try clear hfz45_0
                        try clear hfz45_1
                        try clear hfz45_2
                        try clear hfz45_3
                        try clear hfz47_0
                        try clear hfz47_1
                        try clear hfz47_2
                        try clear hfz47_3
                        try clear hfz49_0
                        try clear hfz49_1
                        try clear hfz49_2
                        try clear hfz49_3
                        try clear hfz52_0
                        try clear hfz52_1
                        try clear hfz52_2
                        try clear hfz52_3
                        try clear hfz54_0
                        try clear hfz54_1
                        try clear hfz54_2
                        try clear hfz54_3
                        try clear hfz56_0
                        try clear hfz56_1
                        try clear hfz56_2
                        try clear hfz56_3
                        try clear hfz58_0
                        try clear hfz58_1
                        try clear hfz58_2
                        try clear hfz58_3
                        try clear hfz60_0
                        try clear hfz60_1
                        try clear hfz60_2
                        try clear hfz60_3
                        try clear hfz62_0
                        try clear hfz62_1
                        try clear hfz62_2
                        try clear hfz62_3
                        try clear p2
                        obtain ⟨kq, x175_41, rfl, HA, HJ41, HO_10, HO_12, HO_14, BK293, HB⟩ := hcut
                        cases kq with
                        | zero => exact absurd HA.out (by simp [twoslotlaw07_VectorOrder.j2])
                        | succ kj41 =>
                          have H := HA.out
                          clear HA
                          simp only [twoslotlaw07_VectorOrder.j2] at H
                          by_cases c73 : x175_41 = true
                          · subst c73
                            have H1 : (none) = some r := by rw [if_pos rfl] at H; exact H
                            clear H
                            have H := H1
                            clear H1
                            exact absurd H (by simp)
                          · replace c73 := Bool.eq_false_iff.mpr c73
                            subst c73
                            have H1 : ((twoslotref07_Same.f kj41 t298 t302).bind fun t324 => (if t324 = true then ((twoslotref07_Same.f kj41 t306 l1).bind fun t325 => (if t325 = true then (if t310 = true then (if t312 = true then (if t314 = true then ((twoslotref07_Same.f kj41 l1 l2).bind fun t326 => (if (t316 != t326) = true then (none) else (if t320 = true then (if t318 = true then (twoslotlaw07_VectorOrder.j3 kj41 l1 l2 l3 t298 (t322 != t320) a0_0 a0_1 a0_2 a0_3) else (none)) else (if t318 = true then (twoslotlaw07_VectorOrder.j3 kj41 l1 l2 l3 t298 (t322 != t320) a0_0 a0_1 a0_2 a0_3) else (twoslotlaw07_VectorOrder.j3 kj41 l1 l2 l3 t298 (t322 != false) a0_0 a0_1 a0_2 a0_3))))) else ((twoslotref07_Same.f kj41 l1 l2).bind fun t327 => (if (false != t327) = true then (none) else (if t318 = true then (twoslotlaw07_VectorOrder.j3 kj41 l1 l2 l3 t298 (t322 != t320) a0_0 a0_1 a0_2 a0_3) else (twoslotlaw07_VectorOrder.j3 kj41 l1 l2 l3 t298 (t322 != false) a0_0 a0_1 a0_2 a0_3))))) else (none)) else (none)) else (none))) else (none))) = some r := by rw [if_neg (show ¬ (false = true) by decide)] at H; exact H
                            clear H
                            have H := H1
                            clear H1
                            have HC74 := Aside0.mk H
                            clear H
                            go_upto_region 20 with (fail)
                            go_cut [221] (fun v221 wc => ∃ (kq : Nat) (x221_73 : Bool), v221 = .bool x221_73 ∧ Aside0 (twoslotlaw07_VectorOrder.j3 kq l1 l2 l3 t298 x221_73 a0_0 a0_1 a0_2 a0_3 = some r) ∧ Aside0 (kq ≤ kj41) ∧ Aside0 (Kd.R (Kd.int .i64) 3 wc w.heap.size (fun _ => True) (.slice Ao50 t298.length co50) t298) ∧ Aside0 (wc.heap[gb293]? = some (.cells #[.int .i64 a0_0, .int .i64 a0_1, .int .i64 a0_2, .int .i64 a0_3] 24 (0, 0))) ∧ Aside0 (Below w.heap.size w wc))
                            case first =>
                              have H := HC74.out
                              clear HC74
                              replace H := Option.bind_eq_some_iff.mp H
                              obtain ⟨t324, A750, H⟩ := H
                              replace H : (if t324 = true then ((twoslotref07_Same.f kj41 t306 l1).bind fun t325 => (if t325 = true then (if t310 = true then (if t312 = true then (if t314 = true then ((twoslotref07_Same.f kj41 l1 l2).bind fun t326 => (if (t316 != t326) = true then (none) else (if t320 = true then (if t318 = true then (twoslotlaw07_VectorOrder.j3 kj41 l1 l2 l3 t298 (t322 != t320) a0_0 a0_1 a0_2 a0_3) else (none)) else (if t318 = true then (twoslotlaw07_VectorOrder.j3 kj41 l1 l2 l3 t298 (t322 != t320) a0_0 a0_1 a0_2 a0_3) else (twoslotlaw07_VectorOrder.j3 kj41 l1 l2 l3 t298 (t322 != false) a0_0 a0_1 a0_2 a0_3))))) else ((twoslotref07_Same.f kj41 l1 l2).bind fun t327 => (if (false != t327) = true then (none) else (if t318 = true then (twoslotlaw07_VectorOrder.j3 kj41 l1 l2 l3 t298 (t322 != t320) a0_0 a0_1 a0_2 a0_3) else (twoslotlaw07_VectorOrder.j3 kj41 l1 l2 l3 t298 (t322 != false) a0_0 a0_1 a0_2 a0_3))))) else (none)) else (none)) else (none))) else (none)) = some r := H
                              have A75 := Aside0.mk A750
                              clear A750
                              by_cases c76 : t324 = true
                              · subst c76
                                have H1 : ((twoslotref07_Same.f kj41 t306 l1).bind fun t325 => (if t325 = true then (if t310 = true then (if t312 = true then (if t314 = true then ((twoslotref07_Same.f kj41 l1 l2).bind fun t326 => (if (t316 != t326) = true then (none) else (if t320 = true then (if t318 = true then (twoslotlaw07_VectorOrder.j3 kj41 l1 l2 l3 t298 (t322 != t320) a0_0 a0_1 a0_2 a0_3) else (none)) else (if t318 = true then (twoslotlaw07_VectorOrder.j3 kj41 l1 l2 l3 t298 (t322 != t320) a0_0 a0_1 a0_2 a0_3) else (twoslotlaw07_VectorOrder.j3 kj41 l1 l2 l3 t298 (t322 != false) a0_0 a0_1 a0_2 a0_3))))) else ((twoslotref07_Same.f kj41 l1 l2).bind fun t327 => (if (false != t327) = true then (none) else (if t318 = true then (twoslotlaw07_VectorOrder.j3 kj41 l1 l2 l3 t298 (t322 != t320) a0_0 a0_1 a0_2 a0_3) else (twoslotlaw07_VectorOrder.j3 kj41 l1 l2 l3 t298 (t322 != false) a0_0 a0_1 a0_2 a0_3))))) else (none)) else (none)) else (none))) = some r := by rw [if_pos rfl] at H; exact H
                                clear H
                                have H := H1
                                clear H1
                                replace H := Option.bind_eq_some_iff.mp H
                                obtain ⟨t325, A770, H⟩ := H
                                replace H : (if t325 = true then (if t310 = true then (if t312 = true then (if t314 = true then ((twoslotref07_Same.f kj41 l1 l2).bind fun t326 => (if (t316 != t326) = true then (none) else (if t320 = true then (if t318 = true then (twoslotlaw07_VectorOrder.j3 kj41 l1 l2 l3 t298 (t322 != t320) a0_0 a0_1 a0_2 a0_3) else (none)) else (if t318 = true then (twoslotlaw07_VectorOrder.j3 kj41 l1 l2 l3 t298 (t322 != t320) a0_0 a0_1 a0_2 a0_3) else (twoslotlaw07_VectorOrder.j3 kj41 l1 l2 l3 t298 (t322 != false) a0_0 a0_1 a0_2 a0_3))))) else ((twoslotref07_Same.f kj41 l1 l2).bind fun t327 => (if (false != t327) = true then (none) else (if t318 = true then (twoslotlaw07_VectorOrder.j3 kj41 l1 l2 l3 t298 (t322 != t320) a0_0 a0_1 a0_2 a0_3) else (twoslotlaw07_VectorOrder.j3 kj41 l1 l2 l3 t298 (t322 != false) a0_0 a0_1 a0_2 a0_3))))) else (none)) else (none)) else (none)) = some r := H
                                have A77 := Aside0.mk A770
                                clear A770
                                by_cases c78 : t325 = true
                                · subst c78
                                  have H1 : (if t310 = true then (if t312 = true then (if t314 = true then ((twoslotref07_Same.f kj41 l1 l2).bind fun t326 => (if (t316 != t326) = true then (none) else (if t320 = true then (if t318 = true then (twoslotlaw07_VectorOrder.j3 kj41 l1 l2 l3 t298 (t322 != t320) a0_0 a0_1 a0_2 a0_3) else (none)) else (if t318 = true then (twoslotlaw07_VectorOrder.j3 kj41 l1 l2 l3 t298 (t322 != t320) a0_0 a0_1 a0_2 a0_3) else (twoslotlaw07_VectorOrder.j3 kj41 l1 l2 l3 t298 (t322 != false) a0_0 a0_1 a0_2 a0_3))))) else ((twoslotref07_Same.f kj41 l1 l2).bind fun t327 => (if (false != t327) = true then (none) else (if t318 = true then (twoslotlaw07_VectorOrder.j3 kj41 l1 l2 l3 t298 (t322 != t320) a0_0 a0_1 a0_2 a0_3) else (twoslotlaw07_VectorOrder.j3 kj41 l1 l2 l3 t298 (t322 != false) a0_0 a0_1 a0_2 a0_3))))) else (none)) else (none)) = some r := by rw [if_pos rfl] at H; exact H
                                  clear H
                                  have H := H1
                                  clear H1
                                  by_cases c79 : t310 = true
                                  · subst c79
                                    have H1 : (if t312 = true then (if t314 = true then ((twoslotref07_Same.f kj41 l1 l2).bind fun t326 => (if (t316 != t326) = true then (none) else (if t320 = true then (if t318 = true then (twoslotlaw07_VectorOrder.j3 kj41 l1 l2 l3 t298 (t322 != t320) a0_0 a0_1 a0_2 a0_3) else (none)) else (if t318 = true then (twoslotlaw07_VectorOrder.j3 kj41 l1 l2 l3 t298 (t322 != t320) a0_0 a0_1 a0_2 a0_3) else (twoslotlaw07_VectorOrder.j3 kj41 l1 l2 l3 t298 (t322 != false) a0_0 a0_1 a0_2 a0_3))))) else ((twoslotref07_Same.f kj41 l1 l2).bind fun t327 => (if (false != t327) = true then (none) else (if t318 = true then (twoslotlaw07_VectorOrder.j3 kj41 l1 l2 l3 t298 (t322 != t320) a0_0 a0_1 a0_2 a0_3) else (twoslotlaw07_VectorOrder.j3 kj41 l1 l2 l3 t298 (t322 != false) a0_0 a0_1 a0_2 a0_3))))) else (none)) = some r := by rw [if_pos rfl] at H; exact H
                                    clear H
                                    have H := H1
                                    clear H1
                                    by_cases c80 : t312 = true
                                    · subst c80
                                      have H1 : (if t314 = true then ((twoslotref07_Same.f kj41 l1 l2).bind fun t326 => (if (t316 != t326) = true then (none) else (if t320 = true then (if t318 = true then (twoslotlaw07_VectorOrder.j3 kj41 l1 l2 l3 t298 (t322 != t320) a0_0 a0_1 a0_2 a0_3) else (none)) else (if t318 = true then (twoslotlaw07_VectorOrder.j3 kj41 l1 l2 l3 t298 (t322 != t320) a0_0 a0_1 a0_2 a0_3) else (twoslotlaw07_VectorOrder.j3 kj41 l1 l2 l3 t298 (t322 != false) a0_0 a0_1 a0_2 a0_3))))) else ((twoslotref07_Same.f kj41 l1 l2).bind fun t327 => (if (false != t327) = true then (none) else (if t318 = true then (twoslotlaw07_VectorOrder.j3 kj41 l1 l2 l3 t298 (t322 != t320) a0_0 a0_1 a0_2 a0_3) else (twoslotlaw07_VectorOrder.j3 kj41 l1 l2 l3 t298 (t322 != false) a0_0 a0_1 a0_2 a0_3))))) = some r := by rw [if_pos rfl] at H; exact H
                                      clear H
                                      have H := H1
                                      clear H1
                                      by_cases c81 : t314 = true
                                      · subst c81
                                        have H1 : ((twoslotref07_Same.f kj41 l1 l2).bind fun t326 => (if (t316 != t326) = true then (none) else (if t320 = true then (if t318 = true then (twoslotlaw07_VectorOrder.j3 kj41 l1 l2 l3 t298 (t322 != t320) a0_0 a0_1 a0_2 a0_3) else (none)) else (if t318 = true then (twoslotlaw07_VectorOrder.j3 kj41 l1 l2 l3 t298 (t322 != t320) a0_0 a0_1 a0_2 a0_3) else (twoslotlaw07_VectorOrder.j3 kj41 l1 l2 l3 t298 (t322 != false) a0_0 a0_1 a0_2 a0_3))))) = some r := by rw [if_pos rfl] at H; exact H
                                        clear H
                                        have H := H1
                                        clear H1
                                        replace H := Option.bind_eq_some_iff.mp H
                                        obtain ⟨t326, A820, H⟩ := H
                                        replace H : (if (t316 != t326) = true then (none) else (if t320 = true then (if t318 = true then (twoslotlaw07_VectorOrder.j3 kj41 l1 l2 l3 t298 (t322 != t320) a0_0 a0_1 a0_2 a0_3) else (none)) else (if t318 = true then (twoslotlaw07_VectorOrder.j3 kj41 l1 l2 l3 t298 (t322 != t320) a0_0 a0_1 a0_2 a0_3) else (twoslotlaw07_VectorOrder.j3 kj41 l1 l2 l3 t298 (t322 != false) a0_0 a0_1 a0_2 a0_3)))) = some r := H
                                        have A82 := Aside0.mk A820
                                        clear A820
                                        by_cases c83 : (t316 != t326) = true
                                        · rw [if_pos c83] at H
                                          exact absurd H (by simp)
                                        · rw [if_neg c83] at H
                                          have c83b0 : (t316 != t326) = false := by simpa using c83
                                          (try (have c83b1 : decide (t316 = t326) = true := by simpa using c83))
                                          (try (have c83b2 : (t316 == t326) = true := by simpa using c83))
                                          clear c83
                                          (first | rw [c83b0] | (simp only [i64_w, i32_w]; rw [c83b0]) | skip)
                                          by_cases c84 : t320 = true
                                          · subst c84
                                            have H1 : (if t318 = true then (twoslotlaw07_VectorOrder.j3 kj41 l1 l2 l3 t298 (t322 != true) a0_0 a0_1 a0_2 a0_3) else (none)) = some r := by rw [if_pos rfl] at H; exact H
                                            clear H
                                            have H := H1
                                            clear H1
                                            by_cases c85 : t318 = true
                                            · subst c85
                                              have H1 : (twoslotlaw07_VectorOrder.j3 kj41 l1 l2 l3 t298 (t322 != true) a0_0 a0_1 a0_2 a0_3) = some r := by rw [if_pos rfl] at H; exact H
                                              clear H
                                              have H := H1
                                              clear H1
                                              have H' := Aside0.mk H
                                              clear H
                                              obtain ⟨Ao86, co86, eo86⟩ := Kd.R_slice HO_12.out
                                              subst eo86
                                              go_wp2_with (first | ((with_reducible refine gate_callee (f := 20) rfl ?_); refine goesL_ (some 178) rfl rfl Try.func20 (by kernel_rfl) rfl #[.slice Ao50 t298.length co50, .slice Ao86 t302.length co86] rfl (by (try simp only [List.map_toArray, List.map_cons, List.map_nil]); first | done | rfl | (simp only [List.length_drop, List.length_take]; rfl)) ?_; (with_reducible refine (twoslotref07_Same.calls kj41 _ _ t298 _ _ t302 true _ ?side1 ?side2 ?side3 ?side4 A75.out).mono ?_); (case side1 => repeat (first | exact (Kd.R_reads' HO_10.out).2.2 | (with_reducible refine Kd.C_alloc ?_ _) | (with_reducible refine Kd.C_drewN ?_ _) | (with_reducible refine Kd.C_drew ?_))); (case side2 => exact (Kd.R_reads' HO_10.out).2.1); (case side3 => repeat (first | exact (Kd.R_reads' HO_12.out).2.2 | (with_reducible refine Kd.C_alloc ?_ _) | (with_reducible refine Kd.C_drewN ?_ _) | (with_reducible refine Kd.C_drew ?_))); (case side4 => exact (Kd.R_reads' HO_12.out).2.1); rintro e w' ⟨rfl, ⟨nd, rfl⟩⟩; refine ⟨_, rfl, ?_⟩; obtain ⟨Ao87, co87, eo87⟩ := Kd.R_slice HO_14.out; subst eo87) | (go_at_call 20; (with_reducible refine (twoslotref07_Same.calls kj41 _ _ t306 _ _ l1 true _ ?side1 ?side2 ?side3 ?side4 A77.out).mono ?_); (case side1 => repeat (first | exact (Kd.R_reads' HO_14.out).2.2 | (with_reducible refine Kd.C_alloc ?_ _) | (with_reducible refine Kd.C_drewN ?_ _) | (with_reducible refine Kd.C_drew ?_))); (case side2 => exact (Kd.R_reads' HO_14.out).2.1); (case side3 => repeat (first | exact (Kd.C_below HR1.out (by repeat (first | (with_reducible first | exact HB.out | apply below_alloc | apply pw_below_drewN | apply below_drew1 | refine below_set ?_ GE293.out) | exact HB.out))) | (with_reducible refine Kd.C_alloc ?_ _) | (with_reducible refine Kd.C_drewN ?_ _) | (with_reducible refine Kd.C_drew ?_))); (case side4 => exact HC1.out); rintro e w' ⟨rfl, ⟨nd, rfl⟩⟩) | (go_at_call 20; (with_reducible refine (twoslotref07_Same.calls kj41 _ _ l1 _ _ l2 t326 _ ?side1 ?side2 ?side3 ?side4 A82.out).mono ?_); (case side1 => repeat (first | exact (Kd.C_below HR1.out (by repeat (first | (with_reducible first | exact HB.out | apply below_alloc | apply pw_below_drewN | apply below_drew1 | refine below_set ?_ GE293.out) | exact HB.out))) | (with_reducible refine Kd.C_alloc ?_ _) | (with_reducible refine Kd.C_drewN ?_ _) | (with_reducible refine Kd.C_drew ?_))); (case side2 => exact HC1.out); (case side3 => repeat (first | exact (Kd.C_below HR2.out (by repeat (first | (with_reducible first | exact HB.out | apply below_alloc | apply pw_below_drewN | apply below_drew1 | refine below_set ?_ GE293.out) | exact HB.out))) | (with_reducible refine Kd.C_alloc ?_ _) | (with_reducible refine Kd.C_drewN ?_ _) | (with_reducible refine Kd.C_drew ?_))); (case side4 => exact HC2.out); rintro e w' ⟨rfl, ⟨nd, rfl⟩⟩))
                                              go_meet
                                              case rel => exact ⟨_, ((t322 != true)), (by first | rfl | (simp; done) | (simp [*]; done)), H', ⟨by have := HJ6.out; have := HJ12.out; have := HJ41.out; first | omega | exact Nat.le_refl _⟩, ⟨by (with_reducible repeat (first | apply Kd.R_alloc | apply Kd.R_drewN | apply Kd.R_drew)); exact Kd.R_mono HO_10.out (fun _ hk => trivial)⟩, ⟨by (with_reducible repeat (first | refine blk_drewN ?_ _ | refine blk_drew ?_ | refine blk_alloc ?_ _)); exact BK293.out⟩, ⟨by repeat (first | (with_reducible first | exact HB.out | apply below_alloc | apply pw_below_drewN | apply below_drew1 | refine below_set ?_ GE293.out) | exact HB.out)⟩⟩
                                            · replace c85 := Bool.eq_false_iff.mpr c85
                                              subst c85
                                              have H1 : (none) = some r := by rw [if_neg (show ¬ (false = true) by decide)] at H; exact H
                                              clear H
                                              have H := H1
                                              clear H1
                                              exact absurd H (by simp)
                                          · replace c84 := Bool.eq_false_iff.mpr c84
                                            subst c84
                                            have H1 : (if t318 = true then (twoslotlaw07_VectorOrder.j3 kj41 l1 l2 l3 t298 (t322 != false) a0_0 a0_1 a0_2 a0_3) else (twoslotlaw07_VectorOrder.j3 kj41 l1 l2 l3 t298 (t322 != false) a0_0 a0_1 a0_2 a0_3)) = some r := by rw [if_neg (show ¬ (false = true) by decide)] at H; exact H
                                            clear H
                                            have H := H1
                                            clear H1
                                            by_cases c88 : t318 = true
                                            · subst c88
                                              have H1 : (twoslotlaw07_VectorOrder.j3 kj41 l1 l2 l3 t298 (t322 != false) a0_0 a0_1 a0_2 a0_3) = some r := by rw [if_pos rfl] at H; exact H
                                              clear H
                                              have H := H1
                                              clear H1
                                              have H' := Aside0.mk H
                                              clear H
                                              obtain ⟨Ao89, co89, eo89⟩ := Kd.R_slice HO_12.out
                                              subst eo89
                                              go_wp2_with (first | ((with_reducible refine gate_callee (f := 20) rfl ?_); refine goesL_ (some 178) rfl rfl Try.func20 (by kernel_rfl) rfl #[.slice Ao50 t298.length co50, .slice Ao89 t302.length co89] rfl (by (try simp only [List.map_toArray, List.map_cons, List.map_nil]); first | done | rfl | (simp only [List.length_drop, List.length_take]; rfl)) ?_; (with_reducible refine (twoslotref07_Same.calls kj41 _ _ t298 _ _ t302 true _ ?side1 ?side2 ?side3 ?side4 A75.out).mono ?_); (case side1 => repeat (first | exact (Kd.R_reads' HO_10.out).2.2 | (with_reducible refine Kd.C_alloc ?_ _) | (with_reducible refine Kd.C_drewN ?_ _) | (with_reducible refine Kd.C_drew ?_))); (case side2 => exact (Kd.R_reads' HO_10.out).2.1); (case side3 => repeat (first | exact (Kd.R_reads' HO_12.out).2.2 | (with_reducible refine Kd.C_alloc ?_ _) | (with_reducible refine Kd.C_drewN ?_ _) | (with_reducible refine Kd.C_drew ?_))); (case side4 => exact (Kd.R_reads' HO_12.out).2.1); rintro e w' ⟨rfl, ⟨nd, rfl⟩⟩; refine ⟨_, rfl, ?_⟩; obtain ⟨Ao90, co90, eo90⟩ := Kd.R_slice HO_14.out; subst eo90) | (go_at_call 20; (with_reducible refine (twoslotref07_Same.calls kj41 _ _ t306 _ _ l1 true _ ?side1 ?side2 ?side3 ?side4 A77.out).mono ?_); (case side1 => repeat (first | exact (Kd.R_reads' HO_14.out).2.2 | (with_reducible refine Kd.C_alloc ?_ _) | (with_reducible refine Kd.C_drewN ?_ _) | (with_reducible refine Kd.C_drew ?_))); (case side2 => exact (Kd.R_reads' HO_14.out).2.1); (case side3 => repeat (first | exact (Kd.C_below HR1.out (by repeat (first | (with_reducible first | exact HB.out | apply below_alloc | apply pw_below_drewN | apply below_drew1 | refine below_set ?_ GE293.out) | exact HB.out))) | (with_reducible refine Kd.C_alloc ?_ _) | (with_reducible refine Kd.C_drewN ?_ _) | (with_reducible refine Kd.C_drew ?_))); (case side4 => exact HC1.out); rintro e w' ⟨rfl, ⟨nd, rfl⟩⟩) | (go_at_call 20; (with_reducible refine (twoslotref07_Same.calls kj41 _ _ l1 _ _ l2 t326 _ ?side1 ?side2 ?side3 ?side4 A82.out).mono ?_); (case side1 => repeat (first | exact (Kd.C_below HR1.out (by repeat (first | (with_reducible first | exact HB.out | apply below_alloc | apply pw_below_drewN | apply below_drew1 | refine below_set ?_ GE293.out) | exact HB.out))) | (with_reducible refine Kd.C_alloc ?_ _) | (with_reducible refine Kd.C_drewN ?_ _) | (with_reducible refine Kd.C_drew ?_))); (case side2 => exact HC1.out); (case side3 => repeat (first | exact (Kd.C_below HR2.out (by repeat (first | (with_reducible first | exact HB.out | apply below_alloc | apply pw_below_drewN | apply below_drew1 | refine below_set ?_ GE293.out) | exact HB.out))) | (with_reducible refine Kd.C_alloc ?_ _) | (with_reducible refine Kd.C_drewN ?_ _) | (with_reducible refine Kd.C_drew ?_))); (case side4 => exact HC2.out); rintro e w' ⟨rfl, ⟨nd, rfl⟩⟩))
                                              go_meet
                                              case rel => exact ⟨_, ((t322 != false)), (by first | rfl | (simp; done) | (simp [*]; done)), H', ⟨by have := HJ6.out; have := HJ12.out; have := HJ41.out; first | omega | exact Nat.le_refl _⟩, ⟨by (with_reducible repeat (first | apply Kd.R_alloc | apply Kd.R_drewN | apply Kd.R_drew)); exact Kd.R_mono HO_10.out (fun _ hk => trivial)⟩, ⟨by (with_reducible repeat (first | refine blk_drewN ?_ _ | refine blk_drew ?_ | refine blk_alloc ?_ _)); exact BK293.out⟩, ⟨by repeat (first | (with_reducible first | exact HB.out | apply below_alloc | apply pw_below_drewN | apply below_drew1 | refine below_set ?_ GE293.out) | exact HB.out)⟩⟩
                                            · replace c88 := Bool.eq_false_iff.mpr c88
                                              subst c88
                                              have H1 : (twoslotlaw07_VectorOrder.j3 kj41 l1 l2 l3 t298 (t322 != false) a0_0 a0_1 a0_2 a0_3) = some r := by rw [if_neg (show ¬ (false = true) by decide)] at H; exact H
                                              clear H
                                              have H := H1
                                              clear H1
                                              have H' := Aside0.mk H
                                              clear H
                                              obtain ⟨Ao91, co91, eo91⟩ := Kd.R_slice HO_12.out
                                              subst eo91
                                              go_wp2_with (first | ((with_reducible refine gate_callee (f := 20) rfl ?_); refine goesL_ (some 178) rfl rfl Try.func20 (by kernel_rfl) rfl #[.slice Ao50 t298.length co50, .slice Ao91 t302.length co91] rfl (by (try simp only [List.map_toArray, List.map_cons, List.map_nil]); first | done | rfl | (simp only [List.length_drop, List.length_take]; rfl)) ?_; (with_reducible refine (twoslotref07_Same.calls kj41 _ _ t298 _ _ t302 true _ ?side1 ?side2 ?side3 ?side4 A75.out).mono ?_); (case side1 => repeat (first | exact (Kd.R_reads' HO_10.out).2.2 | (with_reducible refine Kd.C_alloc ?_ _) | (with_reducible refine Kd.C_drewN ?_ _) | (with_reducible refine Kd.C_drew ?_))); (case side2 => exact (Kd.R_reads' HO_10.out).2.1); (case side3 => repeat (first | exact (Kd.R_reads' HO_12.out).2.2 | (with_reducible refine Kd.C_alloc ?_ _) | (with_reducible refine Kd.C_drewN ?_ _) | (with_reducible refine Kd.C_drew ?_))); (case side4 => exact (Kd.R_reads' HO_12.out).2.1); rintro e w' ⟨rfl, ⟨nd, rfl⟩⟩; refine ⟨_, rfl, ?_⟩; obtain ⟨Ao92, co92, eo92⟩ := Kd.R_slice HO_14.out; subst eo92) | (go_at_call 20; (with_reducible refine (twoslotref07_Same.calls kj41 _ _ t306 _ _ l1 true _ ?side1 ?side2 ?side3 ?side4 A77.out).mono ?_); (case side1 => repeat (first | exact (Kd.R_reads' HO_14.out).2.2 | (with_reducible refine Kd.C_alloc ?_ _) | (with_reducible refine Kd.C_drewN ?_ _) | (with_reducible refine Kd.C_drew ?_))); (case side2 => exact (Kd.R_reads' HO_14.out).2.1); (case side3 => repeat (first | exact (Kd.C_below HR1.out (by repeat (first | (with_reducible first | exact HB.out | apply below_alloc | apply pw_below_drewN | apply below_drew1 | refine below_set ?_ GE293.out) | exact HB.out))) | (with_reducible refine Kd.C_alloc ?_ _) | (with_reducible refine Kd.C_drewN ?_ _) | (with_reducible refine Kd.C_drew ?_))); (case side4 => exact HC1.out); rintro e w' ⟨rfl, ⟨nd, rfl⟩⟩) | (go_at_call 20; (with_reducible refine (twoslotref07_Same.calls kj41 _ _ l1 _ _ l2 t326 _ ?side1 ?side2 ?side3 ?side4 A82.out).mono ?_); (case side1 => repeat (first | exact (Kd.C_below HR1.out (by repeat (first | (with_reducible first | exact HB.out | apply below_alloc | apply pw_below_drewN | apply below_drew1 | refine below_set ?_ GE293.out) | exact HB.out))) | (with_reducible refine Kd.C_alloc ?_ _) | (with_reducible refine Kd.C_drewN ?_ _) | (with_reducible refine Kd.C_drew ?_))); (case side2 => exact HC1.out); (case side3 => repeat (first | exact (Kd.C_below HR2.out (by repeat (first | (with_reducible first | exact HB.out | apply below_alloc | apply pw_below_drewN | apply below_drew1 | refine below_set ?_ GE293.out) | exact HB.out))) | (with_reducible refine Kd.C_alloc ?_ _) | (with_reducible refine Kd.C_drewN ?_ _) | (with_reducible refine Kd.C_drew ?_))); (case side4 => exact HC2.out); rintro e w' ⟨rfl, ⟨nd, rfl⟩⟩))
                                              go_meet
                                              case rel => exact ⟨_, ((t322 != false)), (by first | rfl | (simp; done) | (simp [*]; done)), H', ⟨by have := HJ6.out; have := HJ12.out; have := HJ41.out; first | omega | exact Nat.le_refl _⟩, ⟨by (with_reducible repeat (first | apply Kd.R_alloc | apply Kd.R_drewN | apply Kd.R_drew)); exact Kd.R_mono HO_10.out (fun _ hk => trivial)⟩, ⟨by (with_reducible repeat (first | refine blk_drewN ?_ _ | refine blk_drew ?_ | refine blk_alloc ?_ _)); exact BK293.out⟩, ⟨by repeat (first | (with_reducible first | exact HB.out | apply below_alloc | apply pw_below_drewN | apply below_drew1 | refine below_set ?_ GE293.out) | exact HB.out)⟩⟩
                                      · replace c81 := Bool.eq_false_iff.mpr c81
                                        subst c81
                                        have H1 : ((twoslotref07_Same.f kj41 l1 l2).bind fun t327 => (if (false != t327) = true then (none) else (if t318 = true then (twoslotlaw07_VectorOrder.j3 kj41 l1 l2 l3 t298 (t322 != t320) a0_0 a0_1 a0_2 a0_3) else (twoslotlaw07_VectorOrder.j3 kj41 l1 l2 l3 t298 (t322 != false) a0_0 a0_1 a0_2 a0_3)))) = some r := by rw [if_neg (show ¬ (false = true) by decide)] at H; exact H
                                        clear H
                                        have H := H1
                                        clear H1
                                        replace H := Option.bind_eq_some_iff.mp H
                                        obtain ⟨t327, A930, H⟩ := H
                                        replace H : (if (false != t327) = true then (none) else (if t318 = true then (twoslotlaw07_VectorOrder.j3 kj41 l1 l2 l3 t298 (t322 != t320) a0_0 a0_1 a0_2 a0_3) else (twoslotlaw07_VectorOrder.j3 kj41 l1 l2 l3 t298 (t322 != false) a0_0 a0_1 a0_2 a0_3))) = some r := H
                                        have A93 := Aside0.mk A930
                                        clear A930
                                        by_cases c94 : (false != t327) = true
                                        · rw [if_pos c94] at H
                                          exact absurd H (by simp)
                                        · rw [if_neg c94] at H
                                          have c94b0 : (false != t327) = false := by simpa using c94
                                          (try (have c94b1 : decide (false = t327) = true := by simpa using c94))
                                          (try (have c94b2 : (false == t327) = true := by simpa using c94))
                                          clear c94
                                          by_cases c95 : t318 = true
                                          · subst c95
                                            have H1 : (twoslotlaw07_VectorOrder.j3 kj41 l1 l2 l3 t298 (t322 != t320) a0_0 a0_1 a0_2 a0_3) = some r := by rw [if_pos rfl] at H; exact H
                                            clear H
                                            have H := H1
                                            clear H1
                                            have H' := Aside0.mk H
                                            clear H
                                            obtain ⟨Ao96, co96, eo96⟩ := Kd.R_slice HO_12.out
                                            subst eo96
                                            go_wp2_with (first | ((with_reducible refine gate_callee (f := 20) rfl ?_); refine goesL_ (some 178) rfl rfl Try.func20 (by kernel_rfl) rfl #[.slice Ao50 t298.length co50, .slice Ao96 t302.length co96] rfl (by (try simp only [List.map_toArray, List.map_cons, List.map_nil]); first | done | rfl | (simp only [List.length_drop, List.length_take]; rfl)) ?_; (with_reducible refine (twoslotref07_Same.calls kj41 _ _ t298 _ _ t302 true _ ?side1 ?side2 ?side3 ?side4 A75.out).mono ?_); (case side1 => repeat (first | exact (Kd.R_reads' HO_10.out).2.2 | (with_reducible refine Kd.C_alloc ?_ _) | (with_reducible refine Kd.C_drewN ?_ _) | (with_reducible refine Kd.C_drew ?_))); (case side2 => exact (Kd.R_reads' HO_10.out).2.1); (case side3 => repeat (first | exact (Kd.R_reads' HO_12.out).2.2 | (with_reducible refine Kd.C_alloc ?_ _) | (with_reducible refine Kd.C_drewN ?_ _) | (with_reducible refine Kd.C_drew ?_))); (case side4 => exact (Kd.R_reads' HO_12.out).2.1); rintro e w' ⟨rfl, ⟨nd, rfl⟩⟩; refine ⟨_, rfl, ?_⟩; obtain ⟨Ao97, co97, eo97⟩ := Kd.R_slice HO_14.out; subst eo97) | (go_at_call 20; (with_reducible refine (twoslotref07_Same.calls kj41 _ _ t306 _ _ l1 true _ ?side1 ?side2 ?side3 ?side4 A77.out).mono ?_); (case side1 => repeat (first | exact (Kd.R_reads' HO_14.out).2.2 | (with_reducible refine Kd.C_alloc ?_ _) | (with_reducible refine Kd.C_drewN ?_ _) | (with_reducible refine Kd.C_drew ?_))); (case side2 => exact (Kd.R_reads' HO_14.out).2.1); (case side3 => repeat (first | exact (Kd.C_below HR1.out (by repeat (first | (with_reducible first | exact HB.out | apply below_alloc | apply pw_below_drewN | apply below_drew1 | refine below_set ?_ GE293.out) | exact HB.out))) | (with_reducible refine Kd.C_alloc ?_ _) | (with_reducible refine Kd.C_drewN ?_ _) | (with_reducible refine Kd.C_drew ?_))); (case side4 => exact HC1.out); rintro e w' ⟨rfl, ⟨nd, rfl⟩⟩) | (go_at_call 20; (with_reducible refine (twoslotref07_Same.calls kj41 _ _ l1 _ _ l2 t327 _ ?side1 ?side2 ?side3 ?side4 A93.out).mono ?_); (case side1 => repeat (first | exact (Kd.C_below HR1.out (by repeat (first | (with_reducible first | exact HB.out | apply below_alloc | apply pw_below_drewN | apply below_drew1 | refine below_set ?_ GE293.out) | exact HB.out))) | (with_reducible refine Kd.C_alloc ?_ _) | (with_reducible refine Kd.C_drewN ?_ _) | (with_reducible refine Kd.C_drew ?_))); (case side2 => exact HC1.out); (case side3 => repeat (first | exact (Kd.C_below HR2.out (by repeat (first | (with_reducible first | exact HB.out | apply below_alloc | apply pw_below_drewN | apply below_drew1 | refine below_set ?_ GE293.out) | exact HB.out))) | (with_reducible refine Kd.C_alloc ?_ _) | (with_reducible refine Kd.C_drewN ?_ _) | (with_reducible refine Kd.C_drew ?_))); (case side4 => exact HC2.out); rintro e w' ⟨rfl, ⟨nd, rfl⟩⟩))
                                            go_meet
                                            case rel => exact ⟨_, ((t322 != t320)), (by first | rfl | (simp; done) | (simp [*]; done)), H', ⟨by have := HJ6.out; have := HJ12.out; have := HJ41.out; first | omega | exact Nat.le_refl _⟩, ⟨by (with_reducible repeat (first | apply Kd.R_alloc | apply Kd.R_drewN | apply Kd.R_drew)); exact Kd.R_mono HO_10.out (fun _ hk => trivial)⟩, ⟨by (with_reducible repeat (first | refine blk_drewN ?_ _ | refine blk_drew ?_ | refine blk_alloc ?_ _)); exact BK293.out⟩, ⟨by repeat (first | (with_reducible first | exact HB.out | apply below_alloc | apply pw_below_drewN | apply below_drew1 | refine below_set ?_ GE293.out) | exact HB.out)⟩⟩
                                          · replace c95 := Bool.eq_false_iff.mpr c95
                                            subst c95
                                            have H1 : (twoslotlaw07_VectorOrder.j3 kj41 l1 l2 l3 t298 (t322 != false) a0_0 a0_1 a0_2 a0_3) = some r := by rw [if_neg (show ¬ (false = true) by decide)] at H; exact H
                                            clear H
                                            have H := H1
                                            clear H1
                                            have H' := Aside0.mk H
                                            clear H
                                            obtain ⟨Ao98, co98, eo98⟩ := Kd.R_slice HO_12.out
                                            subst eo98
                                            go_wp2_with (first | ((with_reducible refine gate_callee (f := 20) rfl ?_); refine goesL_ (some 178) rfl rfl Try.func20 (by kernel_rfl) rfl #[.slice Ao50 t298.length co50, .slice Ao98 t302.length co98] rfl (by (try simp only [List.map_toArray, List.map_cons, List.map_nil]); first | done | rfl | (simp only [List.length_drop, List.length_take]; rfl)) ?_; (with_reducible refine (twoslotref07_Same.calls kj41 _ _ t298 _ _ t302 true _ ?side1 ?side2 ?side3 ?side4 A75.out).mono ?_); (case side1 => repeat (first | exact (Kd.R_reads' HO_10.out).2.2 | (with_reducible refine Kd.C_alloc ?_ _) | (with_reducible refine Kd.C_drewN ?_ _) | (with_reducible refine Kd.C_drew ?_))); (case side2 => exact (Kd.R_reads' HO_10.out).2.1); (case side3 => repeat (first | exact (Kd.R_reads' HO_12.out).2.2 | (with_reducible refine Kd.C_alloc ?_ _) | (with_reducible refine Kd.C_drewN ?_ _) | (with_reducible refine Kd.C_drew ?_))); (case side4 => exact (Kd.R_reads' HO_12.out).2.1); rintro e w' ⟨rfl, ⟨nd, rfl⟩⟩; refine ⟨_, rfl, ?_⟩; obtain ⟨Ao99, co99, eo99⟩ := Kd.R_slice HO_14.out; subst eo99) | (go_at_call 20; (with_reducible refine (twoslotref07_Same.calls kj41 _ _ t306 _ _ l1 true _ ?side1 ?side2 ?side3 ?side4 A77.out).mono ?_); (case side1 => repeat (first | exact (Kd.R_reads' HO_14.out).2.2 | (with_reducible refine Kd.C_alloc ?_ _) | (with_reducible refine Kd.C_drewN ?_ _) | (with_reducible refine Kd.C_drew ?_))); (case side2 => exact (Kd.R_reads' HO_14.out).2.1); (case side3 => repeat (first | exact (Kd.C_below HR1.out (by repeat (first | (with_reducible first | exact HB.out | apply below_alloc | apply pw_below_drewN | apply below_drew1 | refine below_set ?_ GE293.out) | exact HB.out))) | (with_reducible refine Kd.C_alloc ?_ _) | (with_reducible refine Kd.C_drewN ?_ _) | (with_reducible refine Kd.C_drew ?_))); (case side4 => exact HC1.out); rintro e w' ⟨rfl, ⟨nd, rfl⟩⟩) | (go_at_call 20; (with_reducible refine (twoslotref07_Same.calls kj41 _ _ l1 _ _ l2 t327 _ ?side1 ?side2 ?side3 ?side4 A93.out).mono ?_); (case side1 => repeat (first | exact (Kd.C_below HR1.out (by repeat (first | (with_reducible first | exact HB.out | apply below_alloc | apply pw_below_drewN | apply below_drew1 | refine below_set ?_ GE293.out) | exact HB.out))) | (with_reducible refine Kd.C_alloc ?_ _) | (with_reducible refine Kd.C_drewN ?_ _) | (with_reducible refine Kd.C_drew ?_))); (case side2 => exact HC1.out); (case side3 => repeat (first | exact (Kd.C_below HR2.out (by repeat (first | (with_reducible first | exact HB.out | apply below_alloc | apply pw_below_drewN | apply below_drew1 | refine below_set ?_ GE293.out) | exact HB.out))) | (with_reducible refine Kd.C_alloc ?_ _) | (with_reducible refine Kd.C_drewN ?_ _) | (with_reducible refine Kd.C_drew ?_))); (case side4 => exact HC2.out); rintro e w' ⟨rfl, ⟨nd, rfl⟩⟩))
                                            go_meet
                                            case rel => exact ⟨_, ((t322 != false)), (by first | rfl | (simp; done) | (simp [*]; done)), H', ⟨by have := HJ6.out; have := HJ12.out; have := HJ41.out; first | omega | exact Nat.le_refl _⟩, ⟨by (with_reducible repeat (first | apply Kd.R_alloc | apply Kd.R_drewN | apply Kd.R_drew)); exact Kd.R_mono HO_10.out (fun _ hk => trivial)⟩, ⟨by (with_reducible repeat (first | refine blk_drewN ?_ _ | refine blk_drew ?_ | refine blk_alloc ?_ _)); exact BK293.out⟩, ⟨by repeat (first | (with_reducible first | exact HB.out | apply below_alloc | apply pw_below_drewN | apply below_drew1 | refine below_set ?_ GE293.out) | exact HB.out)⟩⟩
                                    · replace c80 := Bool.eq_false_iff.mpr c80
                                      subst c80
                                      have H1 : (none) = some r := by rw [if_neg (show ¬ (false = true) by decide)] at H; exact H
                                      clear H
                                      have H := H1
                                      clear H1
                                      exact absurd H (by simp)
                                  · replace c79 := Bool.eq_false_iff.mpr c79
                                    subst c79
                                    have H1 : (none) = some r := by rw [if_neg (show ¬ (false = true) by decide)] at H; exact H
                                    clear H
                                    have H := H1
                                    clear H1
                                    exact absurd H (by simp)
                                · replace c78 := Bool.eq_false_iff.mpr c78
                                  subst c78
                                  have H1 : (none) = some r := by rw [if_neg (show ¬ (false = true) by decide)] at H; exact H
                                  clear H
                                  have H := H1
                                  clear H1
                                  exact absurd H (by simp)
                              · replace c76 := Bool.eq_false_iff.mpr c76
                                subst c76
                                have H1 : (none) = some r := by rw [if_neg (show ¬ (false = true) by decide)] at H; exact H
                                clear H
                                have H := H1
                                clear H1
                                exact absurd H (by simp)
                            case rest =>
                              as_aux_lemma =>
                                clear HC74
                                try clear c1
                                try clear c2
                                try clear p2
                                try clear c3
                                try clear c6
                                try clear c7
                                try clear c8
                                try clear c9
                                try clear c10
                                try clear c10b0
                                try clear c10b1
                                try clear c11
                                try clear c11b0
                                try clear c11b1
                                try clear c12
                                try clear c13
                                try clear c14
                                try clear c15
                                try clear c15b0
                                try clear c15b1
                                try clear c17
                                try clear c17b0
                                try clear c17b1
                                try clear c20
                                try clear c21
                                try clear c31
                                try clear c64
                                try clear c64b0
                                try clear c64b1
                                try clear c65
                                try clear c65b0
                                try clear c65b1
                                try clear c66
                                try clear c66b0
                                try clear c66b1
                                try clear c67
                                try clear c67b0
                                try clear c67b1
                                try clear c68
                                try clear c68b0
                                try clear c68b1
                                try clear c69
                                try clear c69b0
                                try clear c69b1
                                try clear c70
                                try clear c70b0
                                try clear c70b1
                                try clear c71
                                try clear c71b0
                                try clear c71b1
                                try clear c72
                                try clear c72b0
                                try clear c72b1
                                try clear c73
                                try clear c76
                                try clear c78
                                try clear c79
                                try clear c80
                                try clear c81
                                try clear c83
                                try clear c83b0
                                try clear c83b1
                                try clear c83b2
                                try clear c84
                                try clear c85
                                try clear c88
                                try clear c94
                                try clear c94b0
                                try clear c94b1
                                try clear c94b2
                                try clear c95
                                try clear hcz19_0
                                try clear hcz19_1
                                try clear hcz19_2
                                try clear hcz19_3
                                try clear hcz21_0
                                try clear hcz21_1
                                try clear hcz21_2
                                try clear hcz21_3
                                try clear hcz23_0
                                try clear hcz23_1
                                try clear hcz23_2
                                try clear hcz23_3
                                try clear hcz25_0
                                try clear hcz25_1
                                try clear hcz25_2
                                try clear hcz25_3
                                try clear hcz27_0
                                try clear hcz27_1
                                try clear hcz27_2
                                try clear hcz27_3
                                try clear hcz29_0
                                try clear hcz29_1
                                try clear hcz29_2
                                try clear hcz29_3
                                try clear hcz43_0
                                try clear hcz43_1
                                try clear hcz43_2
                                try clear hcz43_3
                                try clear hcz45_0
                                try clear hcz45_1
                                try clear hcz45_2
                                try clear hcz45_3
                                try clear hcz47_0
                                try clear hcz47_1
                                try clear hcz47_2
                                try clear hcz47_3
                                try clear hcz49_0
                                try clear hcz49_1
                                try clear hcz49_2
                                try clear hcz49_3
                                try clear hcz52_0
                                try clear hcz52_1
                                try clear hcz52_2
                                try clear hcz52_3
                                try clear hcz54_0
                                try clear hcz54_1
                                try clear hcz54_2
                                try clear hcz54_3
                                try clear hcz56_0
                                try clear hcz56_1
                                try clear hcz56_2
                                try clear hcz56_3
                                try clear hcz58_0
                                try clear hcz58_1
                                try clear hcz58_2
                                try clear hcz58_3
                                try clear hcz60_0
                                try clear hcz60_1
                                try clear hcz60_2
                                try clear hcz60_3
                                try clear hcz62_0
                                try clear hcz62_1
                                try clear hcz62_2
                                try clear hcz62_3
                                try clear hfz19_0
                                try clear hfz19_1
                                try clear hfz19_2
                                try clear hfz19_3
                                try clear hfz21_0
                                try clear hfz21_1
                                try clear hfz21_2
                                try clear hfz21_3
                                try clear hfz23_0
                                try clear hfz23_1
                                try clear hfz23_2
                                try clear hfz23_3
                                try clear hfz25_0
                                try clear hfz25_1
                                try clear hfz25_2
                                try clear hfz25_3
                                try clear hfz27_0
                                try clear hfz27_1
                                try clear hfz27_2
                                try clear hfz27_3
                                try clear hfz29_0
                                try clear hfz29_1
                                try clear hfz29_2
                                try clear hfz29_3
                                try clear hfz43_0
                                try clear hfz43_1
                                try clear hfz43_2
                                try clear hfz43_3
                                try clear hfz45_0
                                try clear hfz45_1
                                try clear hfz45_2
                                try clear hfz45_3
                                try clear hfz47_0
                                try clear hfz47_1
                                try clear hfz47_2
                                try clear hfz47_3
                                try clear hfz49_0
                                try clear hfz49_1
                                try clear hfz49_2
                                try clear hfz49_3
                                try clear hfz52_0
                                try clear hfz52_1
                                try clear hfz52_2
                                try clear hfz52_3
                                try clear hfz54_0
                                try clear hfz54_1
                                try clear hfz54_2
                                try clear hfz54_3
                                try clear hfz56_0
                                try clear hfz56_1
                                try clear hfz56_2
                                try clear hfz56_3
                                try clear hfz58_0
                                try clear hfz58_1
                                try clear hfz58_2
                                try clear hfz58_3
                                try clear hfz60_0
                                try clear hfz60_1
                                try clear hfz60_2
                                try clear hfz60_3
                                try clear hfz62_0
                                try clear hfz62_1
                                try clear hfz62_2
                                try clear hfz62_3
                                try clear p2
                                obtain ⟨kq, x221_73, rfl, HA, HJ73, HO_10, BK293, HB⟩ := hcut
                                cases kq with
                                | zero => exact absurd HA.out (by simp [twoslotlaw07_VectorOrder.j3])
                                | succ kj73 =>
                                  have H := HA.out
                                  clear HA
                                  simp only [twoslotlaw07_VectorOrder.j3] at H
                                  by_cases c100 : x221_73 = true
                                  · subst c100
                                    have H1 : (none) = some r := by rw [if_pos rfl] at H; exact H
                                    clear H
                                    have H := H1
                                    clear H1
                                    exact absurd H (by simp)
                                  · replace c100 := Bool.eq_false_iff.mpr c100
                                    subst c100
                                    have H1 : ((vector_Join.f kj73 a0_0 a0_1 a0_2 a0_3 t298 l3).bind fun bt328 => ((vector_Join.f kj73 a0_0 a0_1 a0_2 a0_3 l2 l3).bind fun bt332 => ((vector_Join.f kj73 a0_0 a0_1 a0_2 a0_3 l1 bt332.1).bind fun bt336 => (if bt328.2 = 0 then (if bt332.2 = 0 then (if bt336.2 = 0 then ((twoslotref07_Same.f kj73 bt328.1 bt336.1).bind fun t340 => (some t340)) else (none)) else (none)) else (none))))) = some r := by rw [if_neg (show ¬ (false = true) by decide)] at H; exact H
                                    clear H
                                    have H := H1
                                    clear H1
                                    replace H := Option.bind_eq_some_iff.mp H
                                    obtain ⟨⟨t328, t331⟩, A1010, H⟩ := H
                                    replace H : ((vector_Join.f kj73 a0_0 a0_1 a0_2 a0_3 l2 l3).bind fun bt332 => ((vector_Join.f kj73 a0_0 a0_1 a0_2 a0_3 l1 bt332.1).bind fun bt336 => (if t331 = 0 then (if bt332.2 = 0 then (if bt336.2 = 0 then ((twoslotref07_Same.f kj73 t328 bt336.1).bind fun t340 => (some t340)) else (none)) else (none)) else (none)))) = some r := H
                                    have A101 := Aside0.mk A1010
                                    clear A1010
                                    replace H := Option.bind_eq_some_iff.mp H
                                    obtain ⟨⟨t332, t335⟩, A1020, H⟩ := H
                                    replace H : ((vector_Join.f kj73 a0_0 a0_1 a0_2 a0_3 l1 t332).bind fun bt336 => (if t331 = 0 then (if t335 = 0 then (if bt336.2 = 0 then ((twoslotref07_Same.f kj73 t328 bt336.1).bind fun t340 => (some t340)) else (none)) else (none)) else (none))) = some r := H
                                    have A102 := Aside0.mk A1020
                                    clear A1020
                                    replace H := Option.bind_eq_some_iff.mp H
                                    obtain ⟨⟨t336, t339⟩, A1030, H⟩ := H
                                    replace H : (if t331 = 0 then (if t335 = 0 then (if t339 = 0 then ((twoslotref07_Same.f kj73 t328 t336).bind fun t340 => (some t340)) else (none)) else (none)) else (none)) = some r := H
                                    have A103 := Aside0.mk A1030
                                    clear A1030
                                    by_cases c104 : t331 = 0
                                    · rw [if_pos c104] at H
                                      have c104b0 : (t331 == 0) = true := beq_iff_eq.mpr c104
                                      have c104b1 : (t331 != 0) = false := bne_eq_false_iff_eq.mpr c104
                                      clear c104
                                      by_cases c105 : t335 = 0
                                      · rw [if_pos c105] at H
                                        have c105b0 : (t335 == 0) = true := beq_iff_eq.mpr c105
                                        have c105b1 : (t335 != 0) = false := bne_eq_false_iff_eq.mpr c105
                                        clear c105
                                        by_cases c106 : t339 = 0
                                        · rw [if_pos c106] at H
                                          have c106b0 : (t339 == 0) = true := beq_iff_eq.mpr c106
                                          have c106b1 : (t339 != 0) = false := bne_eq_false_iff_eq.mpr c106
                                          clear c106
                                          replace H := Option.bind_eq_some_iff.mp H
                                          obtain ⟨t340, A1070, H⟩ := H
                                          replace H : (some t340) = some r := H
                                          have A107 := Aside0.mk A1070
                                          clear A1070
                                          obtain rfl := Option.some.inj H
                                          have hcz108_0 : wc.cell? ⟨gb293, 0, none⟩ = some (.int .i64 a0_0) := (blk_cell BK293.out 0).trans rfl
                                          have hcz108_1 : wc.cell? ⟨gb293, 1, none⟩ = some (.int .i64 a0_1) := (blk_cell BK293.out 1).trans rfl
                                          have hcz108_2 : wc.cell? ⟨gb293, 2, none⟩ = some (.int .i64 a0_2) := (blk_cell BK293.out 2).trans rfl
                                          have hcz108_3 : wc.cell? ⟨gb293, 3, none⟩ = some (.int .i64 a0_3) := (blk_cell BK293.out 3).trans rfl
                                          have hfz108_0 := blk_frozen BK293.out 0
                                          have hfz108_1 := blk_frozen BK293.out 1
                                          have hfz108_2 := blk_frozen BK293.out 2
                                          have hfz108_3 := blk_frozen BK293.out 3
                                          go_wp2_with (first | ((with_reducible refine gate_callee (f := 13) rfl ?_); refine goesL_ (some 226) rfl rfl Try.func13 (by kernel_rfl) rfl #[.agg #[.int .i64 a0_0, .int .i64 a0_1, .int .i64 a0_2, .int .i64 a0_3], .slice Ao50 t298.length co50, .slice A3 l3.length c3] rfl (by (try simp only [List.map_toArray, List.map_cons, List.map_nil]); first | done | rfl | (simp only [List.length_drop, List.length_take]; rfl)) ?_; (with_reducible refine (vector_Join.calls kj73 a0_0 a0_1 a0_2 a0_3 _ _ t298 _ _ l3 t328 t331 _ ?side1 ?side2 ?side3 ?side4 A101.out).mono ?_); (case side1 => repeat (first | exact (Kd.R_reads' HO_10.out).2.2 | (with_reducible refine Kd.C_alloc ?_ _) | (with_reducible refine Kd.C_drewN ?_ _) | (with_reducible refine Kd.C_drew ?_))); (case side2 => exact (Kd.R_reads' HO_10.out).2.1); (case side3 => repeat (first | exact (Kd.C_below HR3.out HB.out) | (with_reducible refine Kd.C_alloc ?_ _) | (with_reducible refine Kd.C_drewN ?_ _) | (with_reducible refine Kd.C_drew ?_))); (case side4 => exact HC3.out); rintro e w109 ⟨v329, rfl, ho0, hb⟩; refine ⟨_, rfl, ?_⟩; have n0_ := Aside0.mk (Kd.R_elder' (by (with_reducible repeat (first | apply Kd.R_alloc | apply Kd.R_drewN | apply Kd.R_drew)); exact HO_10.out) (Kd.R_base ho0) hb); have n1_ := Aside0.mk (Kd.R_lower (Kd.R_new' ho0 (Kd.R_lt (by (with_reducible repeat (first | apply Kd.R_alloc | apply Kd.R_drewN | apply Kd.R_drew)); exact HO_10.out))) (below_size (by repeat (first | (with_reducible first | exact HB.out | apply below_alloc | apply pw_below_drewN | apply below_drew1 | refine below_set ?_ GE293.out) | exact HB.out)))); have n2_ := Aside0.mk (blk_below (g := gb293) (o := .cells #[.int .i64 a0_0, .int .i64 a0_1, .int .i64 a0_2, .int .i64 a0_3] 24 (0, 0)) (by (with_reducible repeat (first | refine blk_drewN ?_ _ | refine blk_drew ?_ | refine blk_alloc ?_ _)); exact BK293.out) hb); have n3_ := Aside0.mk (below_step (by repeat (first | (with_reducible first | exact HB.out | apply below_alloc | apply pw_below_drewN | apply below_drew1 | refine below_set ?_ GE293.out) | exact HB.out)) hb); clear HO_10; clear BK293; clear HB; have HO_10 := n0_; have HO330 := n1_; have BK293 := n2_; have HB := n3_; clear n0_ n1_ n2_ n3_; (try clear hb); (try clear hb2); (try clear hk); (try clear hi); (try clear ho0); have hcz110_0 : w109.cell? ⟨gb293, 0, none⟩ = some (.int .i64 a0_0) := (blk_cell BK293.out 0).trans rfl; have hcz110_1 : w109.cell? ⟨gb293, 1, none⟩ = some (.int .i64 a0_1) := (blk_cell BK293.out 1).trans rfl; have hcz110_2 : w109.cell? ⟨gb293, 2, none⟩ = some (.int .i64 a0_2) := (blk_cell BK293.out 2).trans rfl; have hcz110_3 : w109.cell? ⟨gb293, 3, none⟩ = some (.int .i64 a0_3) := (blk_cell BK293.out 3).trans rfl; have hfz110_0 := blk_frozen BK293.out 0; have hfz110_1 := blk_frozen BK293.out 1; have hfz110_2 := blk_frozen BK293.out 2; have hfz110_3 := blk_frozen BK293.out 3) | ((with_reducible refine gate_callee (f := 13) rfl ?_); refine goesL_ (some 233) rfl rfl Try.func13 (by kernel_rfl) rfl #[.agg #[.int .i64 a0_0, .int .i64 a0_1, .int .i64 a0_2, .int .i64 a0_3], .slice A2 l2.length c2, .slice A3 l3.length c3] rfl (by (try simp only [List.map_toArray, List.map_cons, List.map_nil]); first | done | rfl | (simp only [List.length_drop, List.length_take]; rfl)) ?_; (with_reducible refine (vector_Join.calls kj73 a0_0 a0_1 a0_2 a0_3 _ _ l2 _ _ l3 t332 t335 _ ?side1 ?side2 ?side3 ?side4 A102.out).mono ?_); (case side1 => repeat (first | exact (Kd.C_below HR2.out HB.out) | (with_reducible refine Kd.C_alloc ?_ _) | (with_reducible refine Kd.C_drewN ?_ _) | (with_reducible refine Kd.C_drew ?_))); (case side2 => exact HC2.out); (case side3 => repeat (first | exact (Kd.C_below HR3.out HB.out) | (with_reducible refine Kd.C_alloc ?_ _) | (with_reducible refine Kd.C_drewN ?_ _) | (with_reducible refine Kd.C_drew ?_))); (case side4 => exact HC3.out); rintro e w111 ⟨v333, rfl, ho0, hb⟩; refine ⟨_, rfl, ?_⟩; have n0_ := Aside0.mk (Kd.R_elder' (by (with_reducible repeat (first | apply Kd.R_alloc | apply Kd.R_drewN | apply Kd.R_drew)); exact HO_10.out) (Kd.R_base ho0) hb); have n1_ := Aside0.mk (Kd.R_elder' (by (with_reducible repeat (first | apply Kd.R_alloc | apply Kd.R_drewN | apply Kd.R_drew)); exact HO330.out) (Kd.R_base ho0) hb); have n2_ := Aside0.mk (Kd.R_lower (Kd.R_new' (Kd.R_new' ho0 (Kd.R_lt (by (with_reducible repeat (first | apply Kd.R_alloc | apply Kd.R_drewN | apply Kd.R_drew)); exact HO_10.out))) (Kd.R_lt (by (with_reducible repeat (first | apply Kd.R_alloc | apply Kd.R_drewN | apply Kd.R_drew)); exact HO330.out))) (below_size (by repeat (first | (with_reducible first | exact HB.out | apply below_alloc | apply pw_below_drewN | apply below_drew1 | refine below_set ?_ GE293.out) | exact HB.out)))); have n3_ := Aside0.mk (blk_below (g := gb293) (o := .cells #[.int .i64 a0_0, .int .i64 a0_1, .int .i64 a0_2, .int .i64 a0_3] 24 (0, 0)) (by (with_reducible repeat (first | refine blk_drewN ?_ _ | refine blk_drew ?_ | refine blk_alloc ?_ _)); exact BK293.out) hb); have n4_ := Aside0.mk (below_step (by repeat (first | (with_reducible first | exact HB.out | apply below_alloc | apply pw_below_drewN | apply below_drew1 | refine below_set ?_ GE293.out) | exact HB.out)) hb); clear HO_10; clear HO330; clear BK293; clear HB; have HO_10 := n0_; have HO330 := n1_; have HO334 := n2_; have BK293 := n3_; have HB := n4_; clear n0_ n1_ n2_ n3_ n4_; (try clear hb); (try clear hb2); (try clear hk); (try clear hi); (try clear ho0); have hcz112_0 : w111.cell? ⟨gb293, 0, none⟩ = some (.int .i64 a0_0) := (blk_cell BK293.out 0).trans rfl; have hcz112_1 : w111.cell? ⟨gb293, 1, none⟩ = some (.int .i64 a0_1) := (blk_cell BK293.out 1).trans rfl; have hcz112_2 : w111.cell? ⟨gb293, 2, none⟩ = some (.int .i64 a0_2) := (blk_cell BK293.out 2).trans rfl; have hcz112_3 : w111.cell? ⟨gb293, 3, none⟩ = some (.int .i64 a0_3) := (blk_cell BK293.out 3).trans rfl; have hfz112_0 := blk_frozen BK293.out 0; have hfz112_1 := blk_frozen BK293.out 1; have hfz112_2 := blk_frozen BK293.out 2; have hfz112_3 := blk_frozen BK293.out 3; obtain ⟨Ao113, co113, eo113⟩ := Kd.R_slice HO334.out; subst eo113) | ((with_reducible refine gate_callee (f := 13) rfl ?_); refine goesL_ (some 240) rfl rfl Try.func13 (by kernel_rfl) rfl #[.agg #[.int .i64 a0_0, .int .i64 a0_1, .int .i64 a0_2, .int .i64 a0_3], .slice A1 l1.length c1, .slice Ao113 t332.length co113] rfl (by (try simp only [List.map_toArray, List.map_cons, List.map_nil]); first | done | rfl | (simp only [List.length_drop, List.length_take]; rfl)) ?_; (with_reducible refine (vector_Join.calls kj73 a0_0 a0_1 a0_2 a0_3 _ _ l1 _ _ t332 t336 t339 _ ?side1 ?side2 ?side3 ?side4 A103.out).mono ?_); (case side1 => repeat (first | exact (Kd.C_below HR1.out HB.out) | (with_reducible refine Kd.C_alloc ?_ _) | (with_reducible refine Kd.C_drewN ?_ _) | (with_reducible refine Kd.C_drew ?_))); (case side2 => exact HC1.out); (case side3 => repeat (first | exact (Kd.R_reads' HO334.out).2.2 | (with_reducible refine Kd.C_alloc ?_ _) | (with_reducible refine Kd.C_drewN ?_ _) | (with_reducible refine Kd.C_drew ?_))); (case side4 => exact (Kd.R_reads' HO334.out).2.1); rintro e w114 ⟨v337, rfl, ho0, hb⟩; refine ⟨_, rfl, ?_⟩; have n0_ := Aside0.mk (Kd.R_elder' (by (with_reducible repeat (first | apply Kd.R_alloc | apply Kd.R_drewN | apply Kd.R_drew)); exact HO_10.out) (Kd.R_base ho0) hb); have n1_ := Aside0.mk (Kd.R_elder' (by (with_reducible repeat (first | apply Kd.R_alloc | apply Kd.R_drewN | apply Kd.R_drew)); exact HO330.out) (Kd.R_base ho0) hb); have n2_ := Aside0.mk (Kd.R_elder' (by (with_reducible repeat (first | apply Kd.R_alloc | apply Kd.R_drewN | apply Kd.R_drew)); exact HO334.out) (Kd.R_base ho0) hb); have n3_ := Aside0.mk (Kd.R_lower (Kd.R_new' (Kd.R_new' (Kd.R_new' ho0 (Kd.R_lt (by (with_reducible repeat (first | apply Kd.R_alloc | apply Kd.R_drewN | apply Kd.R_drew)); exact HO_10.out))) (Kd.R_lt (by (with_reducible repeat (first | apply Kd.R_alloc | apply Kd.R_drewN | apply Kd.R_drew)); exact HO330.out))) (Kd.R_lt (by (with_reducible repeat (first | apply Kd.R_alloc | apply Kd.R_drewN | apply Kd.R_drew)); exact HO334.out))) (below_size (by repeat (first | (with_reducible first | exact HB.out | apply below_alloc | apply pw_below_drewN | apply below_drew1 | refine below_set ?_ GE293.out) | exact HB.out)))); have n4_ := Aside0.mk (blk_below (g := gb293) (o := .cells #[.int .i64 a0_0, .int .i64 a0_1, .int .i64 a0_2, .int .i64 a0_3] 24 (0, 0)) (by (with_reducible repeat (first | refine blk_drewN ?_ _ | refine blk_drew ?_ | refine blk_alloc ?_ _)); exact BK293.out) hb); have n5_ := Aside0.mk (below_step (by repeat (first | (with_reducible first | exact HB.out | apply below_alloc | apply pw_below_drewN | apply below_drew1 | refine below_set ?_ GE293.out) | exact HB.out)) hb); clear HO_10; clear HO330; clear HO334; clear BK293; clear HB; have HO_10 := n0_; have HO330 := n1_; have HO334 := n2_; have HO338 := n3_; have BK293 := n4_; have HB := n5_; clear n0_ n1_ n2_ n3_ n4_ n5_; (try clear hb); (try clear hb2); (try clear hk); (try clear hi); (try clear ho0); obtain ⟨Ao115, co115, eo115⟩ := Kd.R_slice HO330.out; subst eo115; obtain ⟨Ao116, co116, eo116⟩ := Kd.R_slice HO338.out; subst eo116) | (go_at_call 20; (with_reducible refine (twoslotref07_Same.calls kj73 _ _ t328 _ _ t336 t340 _ ?side1 ?side2 ?side3 ?side4 A107.out).mono ?_); (case side1 => repeat (first | exact (Kd.R_reads' HO330.out).2.2 | (with_reducible refine Kd.C_alloc ?_ _) | (with_reducible refine Kd.C_drewN ?_ _) | (with_reducible refine Kd.C_drew ?_))); (case side2 => exact (Kd.R_reads' HO330.out).2.1); (case side3 => repeat (first | exact (Kd.R_reads' HO338.out).2.2 | (with_reducible refine Kd.C_alloc ?_ _) | (with_reducible refine Kd.C_drewN ?_ _) | (with_reducible refine Kd.C_drew ?_))); (case side4 => exact (Kd.R_reads' HO338.out).2.1); rintro e w' ⟨rfl, ⟨nd, rfl⟩⟩))
                                          go_ret
                                          exact ⟨by first | rfl | (simp [errW_none, errW_some] <;> rfl) | (simp [*, errW_none, errW_some] <;> rfl), by repeat (first | (with_reducible first | exact HB.out | apply below_alloc | apply pw_below_drewN | apply below_drew1 | refine below_set ?_ GE293.out) | exact HB.out)⟩
                                        · rw [if_neg c106] at H
                                          exact absurd H (by simp)
                                      · rw [if_neg c105] at H
                                        exact absurd H (by simp)
                                    · rw [if_neg c104] at H
                                      exact absurd H (by simp)
  · replace c6 := Bool.eq_false_iff.mpr c6
    subst c6
    have H1 : (none) = some r := by rw [if_neg (show ¬ (false = true) by decide)] at H; exact H
    clear H
    have H := H1
    clear H1
    exact absurd H (by simp)

/-- THE ONE PURE STATEMENT of twoslotlaw07_VectorOrder: yours. -/
def twoslotlaw07_VectorOrder.Pure : Prop := ∀ (a0_0 : Int) (a0_1 : Int) (a0_2 : Int) (a0_3 : Int) (l1 : List Int) (l2 : List Int) (l3 : List Int), (Lit.int .i64 a0_0).wf = true → (Lit.int .i64 a0_1).wf = true → (Lit.int .i64 a0_2).wf = true → (Lit.int .i64 a0_3).wf = true → (l1.length ≤ maxLen ∧ l1.length * 8 ≤ 140737488351232 ∧ ∀ y0 ∈ l1, (Lit.int .i64 y0).wf = true) → (l2.length ≤ maxLen ∧ l2.length * 8 ≤ 140737488351232 ∧ ∀ y0 ∈ l2, (Lit.int .i64 y0).wf = true) → (l3.length ≤ maxLen ∧ l3.length * 8 ≤ 140737488351232 ∧ ∀ y0 ∈ l3, (Lit.int .i64 y0).wf = true) → ∃ k, twoslotlaw07_VectorOrder.f k a0_0 a0_1 a0_2 a0_3 l1 l2 l3 = some true

end Go.Proofs.Ytkmcjmhnoccedaa.PC
