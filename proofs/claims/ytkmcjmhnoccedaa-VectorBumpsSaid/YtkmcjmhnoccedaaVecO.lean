/- Vectors in order, in plain Lean; what 'alive' answers. No condition. -/
import Derived.Test.YtkmcjmhnoccedaaVec
import Derived.Test.YtkmcjmhnoccedaaPCx8
namespace Go.Proofs.Ytkmcjmhnoccedaa.Pure
open Go Go.RowKit Go.Proofs.Ytkmcjmhnoccedaa Go.Proofs.Ytkmcjmhnoccedaa.PC Go.Proofs.YtkmcjmhnoccedaaW.PrintWords Go.Proofs.YtkmcjmhnoccedaaW.PrintLast
theorem LeO_some {α : Type} {a b : Option α} {x : α} (h : LeO a b) (ha : a = some x) : b = some x := by
  subst ha; exact h x rfl
theorem alive_f {k : Nat} (hk : 30 ≤ k) : twoslotlaw07_alive.f k = some true := by
  induction k with
  | zero => omega
  | succ k ih =>
    by_cases h : k + 1 = 30
    · rw [h]; decide +kernel
    · exact LeO_some (twoslotlaw07_alive.mono k) (ih (by omega))
theorem mx_eq (a b : Int) : mx a b = if a < b then b else a := rfl
theorem rd_jn {x y : List Int} {n i : Nat} (h : i < n) : rd (jn x y n) (i : Nat) = mx (rd x i) (rd y i) := by
  rw [rd_at (by rw [jn_len]; exact h)]
  simp [jn]
theorem bad_rd {l : List Int} : l.any hBad = false ↔ ∀ i, i < l.length → hBad (rd l (i : Nat)) = false := by
  rw [List.any_eq_false]
  constructor
  · intro h i hi
    rw [rd_at hi]
    simpa using h l[i] (List.getElem_mem hi)
  · intro h x hx
    obtain ⟨i, hi, rfl⟩ := List.getElem_of_mem hx
    have := h i hi
    rw [rd_at hi] at this
    simp [this]
theorem jn_chk {a b c d : Int} {x y : List Int} (hx : chk a b c d x = 0) (hy : chk a b c d y = 0) : chk a b c d (jn x y x.length) = 0 := by
  obtain ⟨h1, h2, h3⟩ := chk_zero.1 hx
  obtain ⟨_, h5, h6⟩ := chk_zero.1 hy
  refine chk_zero.2 ⟨h1, by rw [jn_len]; exact h2, bad_rd.2 fun i hi => ?_⟩
  rw [jn_len] at hi
  rw [rd_jn hi, mx_eq]
  have := bad_rd.1 h3 i hi
  have := bad_rd.1 h6 i (by omega)
  split <;> assumption
theorem mx_assoc (a b c : Int) : mx (mx a b) c = mx a (mx b c) := by simp only [mx_eq]; split <;> split <;> (try split) <;> omega
theorem mx_comm (a b : Int) : mx a b = mx b a := by simp only [mx_eq]; split <;> split <;> omega
theorem jn_assoc {x y z : List Int} (h1 : x.length = y.length) (h2 : y.length = z.length) : jn (jn x y x.length) z x.length = jn x (jn y z y.length) x.length := by
  refine ext_rd (by rw [jn_len, jn_len]) fun i hi => ?_
  rw [jn_len] at hi
  rw [rd_jn hi, rd_jn hi, rd_jn hi, rd_jn (by omega), mx_assoc]
theorem jn_comm {x y : List Int} (h : x.length = y.length) : jn x y x.length = jn y x y.length := by
  rw [← h]
  exact List.map_congr_left fun i _ => mx_comm _ _
theorem jn_self (x : List Int) : jn x x x.length = x := by
  refine ext_rd (by rw [jn_len]) fun i hi => ?_
  rw [jn_len] at hi
  rw [rd_jn hi, mx_eq]; split <;> rfl
theorem bl_iff {x y : List Int} {n : Nat} : bl x y n = true ↔ ∀ i, i < n → rd x (i : Nat) ≤ rd y (i : Nat) := by
  unfold bl
  rw [List.all_eq_true]
  simp
theorem bl_left {x y : List Int} (_h : x.length = y.length) : bl x (jn x y x.length) x.length = true := bl_iff.2 fun i hi => by rw [rd_jn hi, mx_eq]; split <;> omega
theorem bl_right {x y : List Int} (h : x.length = y.length) : bl y (jn x y x.length) y.length = true := bl_iff.2 fun i hi => by rw [rd_jn (by omega), mx_eq]; split <;> omega
theorem bl_antisymm {x y : List Int} (h : x.length = y.length) : (bl x y x.length && bl y x y.length) = decide (x = y) := by
  by_cases e : x = y
  · subst e
    have : bl x x x.length = true := bl_iff.2 fun i hi => Int.le_refl _
    simp [this]
  · rw [decide_eq_false e]
    cases h1 : bl x y x.length with
    | false => rfl
    | true =>
      cases h2 : bl y x y.length with
      | false => rfl
      | true => exact absurd (ext_rd h fun i hi => by have := bl_iff.1 h1 i hi; have := bl_iff.1 h2 i (by omega); omega) e
theorem bl_trans {x y z : List Int} (h : x.length = y.length) (h2 : y.length = z.length) : bl x y x.length = true → bl y z y.length = true → bl x z x.length = true := fun h3 h4 => bl_iff.2 fun i hi => by
  have := bl_iff.1 h3 i hi
  have := bl_iff.1 h4 i (by omega)
  omega
theorem bl_jn {x y z : List Int} (h : x.length = y.length) (h2 : y.length = z.length) : bl (jn x y x.length) z x.length = (bl x z x.length && bl y z y.length) := by
  rw [Bool.eq_iff_iff, Bool.and_eq_true, bl_iff, bl_iff, bl_iff]
  constructor
  · intro h3
    refine ⟨fun i hi => ?_, fun i hi => ?_⟩ <;>
    · have := h3 i (by omega)
      rw [rd_jn (by omega), mx_eq] at this
      split at this <;> omega
  · rintro ⟨h3, h4⟩ i hi
    have := h3 i hi
    have := h4 i (by omega)
    rw [rd_jn hi, mx_eq]; split <;> omega
end Go.Proofs.Ytkmcjmhnoccedaa.Pure
