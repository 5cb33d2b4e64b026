/- Vectors are ordered, and a join is the least one above both. -/
import Derived.Test.YtkmcjmhnoccedaaPCx10
import Derived.Test.YtkmcjmhnoccedaaVecO
namespace Go.Proofs.Ytkmcjmhnoccedaa.Pure
open Go Go.RowKit Go.Proofs.Ytkmcjmhnoccedaa Go.Proofs.Ytkmcjmhnoccedaa.PC Go.Proofs.YtkmcjmhnoccedaaW.PrintWords Go.Proofs.YtkmcjmhnoccedaaW.PrintLast
theorem order_j3 {k : Nat} (hk : 30 ≤ k) {a b c d : Int} {x y z : List Int} (hx : chk a b c d x = 0) (hy : chk a b c d y = 0) (hz : chk a b c d z = 0) :
    twoslotlaw07_VectorOrder.j3 (k + 1) x y z (jn x y x.length) false a b c d = some true := by
  have hj : chk a b c d (jn x y x.length) = 0 := jn_chk hx hy
  have hj2 : chk a b c d (jn y z y.length) = 0 := jn_chk hy hz
  simp only [twoslotlaw07_VectorOrder.j3]
  rw [join_f (by omega), if_pos (chk2_zero.2 ⟨hj, hz⟩), join_f (by omega), if_pos (chk2_zero.2 ⟨hy, hz⟩)]
  simp only [Option.bind_some]
  rw [join_f (by omega), if_pos (chk2_zero.2 ⟨hx, hj2⟩)]
  simp only [Option.bind_some, if_true, Bool.false_eq_true, if_false]
  have l1 := same_len (chk2_zero.2 ⟨hx, hy⟩)
  have l2 := same_len (chk2_zero.2 ⟨hy, hz⟩)
  rw [same_f (by rw [jn_len, jn_len]; omega) (by rw [jn_len, jn_len]; omega)]
  rw [jn_len, decide_eq_true (jn_assoc l1.1 l2.1)]
  rfl
theorem VectorOrder : twoslotlaw07_VectorOrder.Pure := by
  intro a b c d x y z _ _ _ _ _ _ _
  obtain ⟨m, hm⟩ : ∃ k, 30 ≤ k := ⟨30, Nat.le_refl _⟩
  refine ⟨m + 1 + 1 + 1 + 1, ?_⟩
  unfold twoslotlaw07_VectorOrder.f
  rw [alive_f (by omega)]
  simp only [Option.bind_some, if_true]
  have h0 : twoslotlaw07_VectorOrder.j0 (m + 1 + 1 + 1 + 1) x y z true a b c d = some true := by simp only [twoslotlaw07_VectorOrder.j0, if_true]
  by_cases c1 : (x.length : Int) > 200
  · rw [if_pos c1, h0]
  by_cases c2 : (y.length : Int) > 200
  · rw [if_neg c1, if_pos c2, h0]
  by_cases c3 : (z.length : Int) > 200
  · rw [if_neg c1, if_neg c2, decide_eq_true c3, h0]
  rw [if_neg c1, if_neg c2, decide_eq_false c3]
  have h1 : twoslotlaw07_VectorOrder.j1 (m + 1 + 1 + 1) x y z true a b c d = some true := by simp only [twoslotlaw07_VectorOrder.j1, if_true]
  simp only [twoslotlaw07_VectorOrder.j0, Bool.false_eq_true, if_false]
  rw [check_f (by omega), check_f (by omega), check_f (by omega)]
  simp only [Option.bind_some]
  by_cases hx : chk a b c d x = 0
  case neg => rw [if_neg hx, h1]
  by_cases hy : chk a b c d y = 0
  case neg => rw [if_pos hx, if_neg hy, h1]
  by_cases hz : chk a b c d z = 0
  case neg => rw [if_pos hx, if_pos hy, bne_iff_ne.mpr hz, h1]
  rw [if_pos hx, if_pos hy, hz]
  have hxy := chk2_zero.2 ⟨hx, hy⟩
  have hyx := chk2_zero.2 ⟨hy, hx⟩
  have hxx := chk2_zero.2 ⟨hx, hx⟩
  have hxz := chk2_zero.2 ⟨hx, hz⟩
  have hyz := chk2_zero.2 ⟨hy, hz⟩
  have hj : chk a b c d (jn x y x.length) = 0 := jn_chk hx hy
  have hxj := chk2_zero.2 ⟨hx, hj⟩
  have hyj := chk2_zero.2 ⟨hy, hj⟩
  have hjz := chk2_zero.2 ⟨hj, hz⟩
  have l1 := same_len hxy
  have l2 := same_len hyz
  simp only [twoslotlaw07_VectorOrder.j1, bne_self_eq_false, Bool.false_eq_true, if_false]
  rw [join_f (by omega), if_pos hxy, join_f (by omega), if_pos hyx, join_f (by omega), if_pos hxx]
  simp only [Option.bind_some]
  rw [below_f (by omega), if_pos hxj, below_f (by omega), if_pos hyj, below_f (by omega), if_pos hxy, below_f (by omega), if_pos hyx, below_f (by omega), if_pos hxz, below_f (by omega), if_pos hyz, below_f (by omega), if_pos hjz]
  simp only [Option.bind_some, if_true, bne_self_eq_false]
  simp only [twoslotlaw07_VectorOrder.j2, Bool.false_eq_true, if_false]
  rw [same_f (by rw [jn_len]; omega) (by rw [jn_len]; omega), same_f (by rw [jn_len]; omega) (by rw [jn_len]; omega), same_f (by omega) (by omega)]
  simp only [Option.bind_some]
  rw [decide_eq_true (jn_comm l1.1), decide_eq_true (jn_self x)]
  simp only [if_true]
  rw [bl_left l1.1, bl_right l1.1]
  simp only [if_true]
  have hb1 := bl_antisymm l1.1
  have hb2 := bl_trans (z := z) l1.1 l2.1
  have hb3 := bl_jn (z := z) l1.1 l2.1
  rw [jn_len, hb3]
  have h3 := order_j3 hm hx hy hz
  simp only [← hb1]
  generalize bl x y x.length = xy at *
  generalize bl y x y.length = yx at *
  generalize bl x z x.length = xz at *
  generalize bl y z y.length = yz at *
  cases xy <;> cases yx <;> cases xz <;> cases yz <;> simp_all
end Go.Proofs.Ytkmcjmhnoccedaa.Pure
