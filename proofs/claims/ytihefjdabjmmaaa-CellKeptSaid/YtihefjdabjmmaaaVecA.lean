/- What the printed functions of vector come to, on lists. No condition. -/
import Derived.Test.YtihefjdabjmmaaaPDx3
import Derived.Test.YtihefjdabjmmaaaPDx2
import Derived.Test.YtihefjdabjmmaaaPDx1
import Derived.Test.YtihefjdabjmmaaaPDx2
namespace Go.Proofs.Ytihefjdabjmmaaa.Pure
open Go Go.RowKit Go.Proofs.Ytihefjdabjmmaaa Go.Proofs.Ytihefjdabjmmaaa.PD Go.Proofs.YtihefjdabjmmaaaW.PrintWords Go.Proofs.YtihefjdabjmmaaaW.PrintLast
/-- parameters that may be -/
def pOk (a b c d : Int) : Prop := 1 ≤ a ∧ a ≤ 12 ∧ 0 ≤ b ∧ b ≤ 4 ∧ 8 ≤ c ∧ c ≤ 64 ∧ 32 ≤ a * c ∧ 8 ≤ d ∧ d ≤ 256
instance (a b c d : Int) : Decidable (pOk a b c d) := by unfold pOk; infer_instance
theorem prod_le {a c : Int} (h1 : 1 ≤ a) (h2 : a ≤ 12) (h3 : 8 ≤ c) (h4 : c ≤ 64) : 0 ≤ a * c ∧ a * c ≤ 768 := by
  refine ⟨Int.mul_nonneg (by omega) (by omega), ?_⟩
  have := Int.mul_le_mul h2 h4 (by omega) (by omega)
  omega
theorem lcheck_f {k : Nat} (hk : 1 ≤ k) (a b c d : Int) : layout_Check.f k a b c d = some (if pOk a b c d then 0 else 2) := by
  obtain ⟨k, rfl⟩ : ∃ m, k = m + 1 := ⟨k - 1, by omega⟩
  unfold layout_Check.f
  simp only [layout_Check.j0, if_true]
  by_cases h1 : a < 1
  · rw [if_pos h1, if_neg (fun h => by unfold pOk at h; omega)]
  rw [if_neg h1]
  by_cases h2 : a > 12
  · rw [if_pos h2, if_neg (fun h => by unfold pOk at h; omega)]
  rw [if_neg h2]
  by_cases h3 : b < 0
  · rw [if_pos h3, if_neg (fun h => by unfold pOk at h; omega)]
  rw [if_neg h3]
  by_cases h4 : b > 4
  · rw [if_pos h4, if_neg (fun h => by unfold pOk at h; omega)]
  rw [if_neg h4]
  by_cases h5 : c < 8
  · rw [if_pos h5, if_neg (fun h => by unfold pOk at h; omega)]
  rw [if_neg h5]
  by_cases h6 : c > 64
  · rw [if_pos h6, if_neg (fun h => by unfold pOk at h; omega)]
  rw [if_neg h6]
  have hp := prod_le (a := a) (c := c) (by omega) (by omega) (by omega) (by omega)
  have hw : wrap64 (a * c) = a * c := by unfold wrap64; omega
  rw [hw]
  by_cases h7 : d < 8
  · rw [if_pos h7, if_neg (fun h => by unfold pOk at h; omega)]
  rw [if_neg h7]
  by_cases h8 : d > 256
  · rw [if_pos (by simpa using h8), if_neg (fun h => by unfold pOk at h; omega)]
  rw [if_neg (by simpa using h8)]
  by_cases h9 : a * c < 32
  · rw [if_pos h9, if_neg (fun h => by unfold pOk at h; omega)]
  · rw [if_neg h9, if_pos (by unfold pOk; omega)]
theorem drives_f {k : Nat} (hk : 1 ≤ k) (a b c d : Int) : layout_Drives.f k a b c d = some (if pOk a b c d then (a + b, 0) else (0, 2)) := by
  unfold layout_Drives.f
  rw [lcheck_f hk]
  by_cases h : pOk a b c d
  · simp only [if_pos h, Option.bind_some]
    have : wrap64 (a + b) = a + b := by have := h; unfold pOk at this; unfold wrap64; omega
    rw [if_pos trivial, this]
  · simp only [if_neg h, Option.bind_some]
    rw [if_neg (by decide)]
/-- what a vector is: 0, or the error -/
def chk (a b c d : Int) (l : List Int) : Int := if pOk a b c d then (if (l.length : Int) = a + b ∧ l.any hBad = false then 0 else 70) else 2
theorem chk_zero {a b c d : Int} {l : List Int} : chk a b c d l = 0 ↔ pOk a b c d ∧ (l.length : Int) = a + b ∧ l.any hBad = false := by
  unfold chk
  split
  · split <;> simp_all
  · simp_all
theorem check_f {k : Nat} (hk : 1 ≤ k) (a b c d : Int) (l : List Int) : vector_Check.f k a b c d l = some (chk a b c d l) := by
  unfold vector_Check.f chk
  rw [drives_f hk]
  simp only [Option.bind_some]
  by_cases h : pOk a b c d
  · simp only [if_pos h, if_true]
    by_cases h1 : (l.length : Int) = a + b
    · rw [if_pos h1]
      cases h2 : l.any hBad <;> simp [h1]
    · rw [if_neg h1, if_neg (by simp [h1])]
  · simp only [if_neg h]
    rw [if_neg (by decide)]
theorem hBad_iff (x : Int) : hBad x = false ↔ 1 ≤ x ∧ x ≤ 1073741824 := by unfold hBad; simp
theorem rd_at {l : List Int} {i : Nat} (h : i < l.length) : rd l (i : Int) = l[i] := by simp [rd, h]
theorem rd_set {l : List Int} {i j : Nat} {x : Int} (h : j < l.length) : rd (l.set i x) (j : Int) = if i = j then x else rd l j := by
  rw [rd_at (by simpa using h), rd_at h, List.getElem_set]
theorem ext_rd {l1 l2 : List Int} (h : l1.length = l2.length) (hr : ∀ i, i < l1.length → rd l1 (i : Nat) = rd l2 (i : Nat)) : l1 = l2 := by
  refine List.ext_getElem h fun i h1 h2 => ?_
  rw [← rd_at h1, ← rd_at h2]; exact hr i h1
theorem w64s {n : Nat} (h : n < 4611686018427387904) : wrap64 ((n : Int) + 1) = ((n + 1 : Nat) : Int) := by unfold wrap64; omega
/-! ### the greatest version -/
theorem last_l0 {l : List Int} (hb : l.length < 4611686018427387904) : ∀ (d k i : Nat) (x : Int), i + d = l.length → d < k → vector_Last.l0 k x l (l.length : Int) (i : Int) = some ((l.drop i).foldl mx x, 0)
  | 0, k, i, x, h, hk => by
    obtain ⟨k, rfl⟩ : ∃ m, k = m + 1 := ⟨k - 1, by omega⟩
    simp only [vector_Last.l0]
    rw [if_neg (by omega), List.drop_of_length_le (by omega)]
    simp
  | d + 1, k, i, x, h, hk => by
    obtain ⟨k, rfl⟩ : ∃ m, k = m + 1 := ⟨k - 1, by omega⟩
    simp only [vector_Last.l0]
    rw [if_pos (by omega), if_pos (by omega), if_pos (by omega), rd_at (by omega), w64s (by omega), last_l0 hb d k (i + 1) _ (by omega) (by omega), List.drop_eq_getElem_cons (show i < l.length by omega), List.foldl_cons]
/-- a vector has few cells -/
theorem short {a b c d : Int} {l : List Int} (h : chk a b c d l = 0) : l.length ≤ 16 := by
  have := chk_zero.1 h
  have h2 := this.1
  unfold pOk at h2
  omega
theorem last_f {k : Nat} (hk : 20 ≤ k) (a b c d : Int) (l : List Int) : vector_Last.f k a b c d l = some (if chk a b c d l = 0 then (l.foldl mx 0, 0) else (0, chk a b c d l)) := by
  unfold vector_Last.f
  rw [check_f (by omega)]
  simp only [Option.bind_some]
  by_cases h : chk a b c d l = 0
  · have hs := short h
    rw [if_pos h, if_pos h, show (0 : Int) = ((0 : Nat) : Int) from rfl]
    exact last_l0 (by omega) l.length k 0 _ (by omega) (by omega)
  · rw [if_neg h, if_neg h]
theorem mx_eq (a b : Int) : mx a b = if a < b then b else a := rfl
theorem bad_rd {l : List Int} : l.any hBad = false ↔ ∀ i, i < l.length → hBad (rd l (i : Nat)) = false := by
  rw [List.any_eq_false]
  constructor
  · intro h i hi
    rw [rd_at hi]
    simpa using h l[i] (List.getElem_mem hi)
  · intro h x hx
    obtain ⟨i, hi, rfl⟩ := List.getElem_of_mem hx
    have := h i hi
    rw [rd_at hi] at this
    simp [this]
theorem LeO_some {α : Type} {a b : Option α} {x : α} (h : LeO a b) (ha : a = some x) : b = some x := by
  subst ha; exact h x rfl
end Go.Proofs.Ytihefjdabjmmaaa.Pure
