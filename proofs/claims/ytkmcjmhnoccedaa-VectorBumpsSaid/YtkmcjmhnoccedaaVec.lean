/- What the printed functions of vector come to, on lists. No condition. -/
import Derived.Test.YtkmcjmhnoccedaaPCx3
import Derived.Test.YtkmcjmhnoccedaaPCx4
import Derived.Test.YtkmcjmhnoccedaaPCx4
import Derived.Test.YtkmcjmhnoccedaaPCx5
import Derived.Test.YtkmcjmhnoccedaaPCx6
import Derived.Test.YtkmcjmhnoccedaaPCx6
import Derived.Test.YtkmcjmhnoccedaaPCx7
import Derived.Test.YtkmcjmhnoccedaaPCx7
namespace Go.Proofs.Ytkmcjmhnoccedaa.Pure
open Go Go.RowKit Go.Proofs.Ytkmcjmhnoccedaa Go.Proofs.Ytkmcjmhnoccedaa.PC Go.Proofs.YtkmcjmhnoccedaaW.PrintWords Go.Proofs.YtkmcjmhnoccedaaW.PrintLast
/-- parameters that may be -/
def pOk (a b c d : Int) : Prop := 1 ≤ a ∧ a ≤ 12 ∧ 0 ≤ b ∧ b ≤ 4 ∧ 8 ≤ c ∧ c ≤ 64 ∧ 32 ≤ a * c ∧ 8 ≤ d ∧ d ≤ 256
instance (a b c d : Int) : Decidable (pOk a b c d) := by unfold pOk; infer_instance
theorem prod_le {a c : Int} (h1 : 1 ≤ a) (h2 : a ≤ 12) (h3 : 8 ≤ c) (h4 : c ≤ 64) : 0 ≤ a * c ∧ a * c ≤ 768 := by
  refine ⟨Int.mul_nonneg (by omega) (by omega), ?_⟩
  have := Int.mul_le_mul h2 h4 (by omega) (by omega)
  omega
theorem lcheck_f {k : Nat} (hk : 1 ≤ k) (a b c d : Int) : layout_Check.f k a b c d = some (if pOk a b c d then 0 else 2) := by
  obtain ⟨k, rfl⟩ : ∃ m, k = m + 1 := ⟨k - 1, by omega⟩
  unfold layout_Check.f
  simp only [layout_Check.j0, if_true]
  by_cases h1 : a < 1
  · rw [if_pos h1, if_neg (fun h => by unfold pOk at h; omega)]
  rw [if_neg h1]
  by_cases h2 : a > 12
  · rw [if_pos h2, if_neg (fun h => by unfold pOk at h; omega)]
  rw [if_neg h2]
  by_cases h3 : b < 0
  · rw [if_pos h3, if_neg (fun h => by unfold pOk at h; omega)]
  rw [if_neg h3]
  by_cases h4 : b > 4
  · rw [if_pos h4, if_neg (fun h => by unfold pOk at h; omega)]
  rw [if_neg h4]
  by_cases h5 : c < 8
  · rw [if_pos h5, if_neg (fun h => by unfold pOk at h; omega)]
  rw [if_neg h5]
  by_cases h6 : c > 64
  · rw [if_pos h6, if_neg (fun h => by unfold pOk at h; omega)]
  rw [if_neg h6]
  have hp := prod_le (a := a) (c := c) (by omega) (by omega) (by omega) (by omega)
  have hw : wrap64 (a * c) = a * c := by unfold wrap64; omega
  rw [hw]
  by_cases h7 : d < 8
  · rw [if_pos h7, if_neg (fun h => by unfold pOk at h; omega)]
  rw [if_neg h7]
  by_cases h8 : d > 256
  · rw [if_pos (by simpa using h8), if_neg (fun h => by unfold pOk at h; omega)]
  rw [if_neg (by simpa using h8)]
  by_cases h9 : a * c < 32
  · rw [if_pos h9, if_neg (fun h => by unfold pOk at h; omega)]
  · rw [if_neg h9, if_pos (by unfold pOk; omega)]
theorem drives_f {k : Nat} (hk : 1 ≤ k) (a b c d : Int) : layout_Drives.f k a b c d = some (if pOk a b c d then (a + b, 0) else (0, 2)) := by
  unfold layout_Drives.f
  rw [lcheck_f hk]
  by_cases h : pOk a b c d
  · simp only [if_pos h, Option.bind_some]
    have : wrap64 (a + b) = a + b := by have := h; unfold pOk at this; unfold wrap64; omega
    rw [if_pos trivial, this]
  · simp only [if_neg h, Option.bind_some]
    rw [if_neg (by decide)]
/-- what a vector is: 0, or the error -/
def chk (a b c d : Int) (l : List Int) : Int := if pOk a b c d then (if (l.length : Int) = a + b ∧ l.any hBad = false then 0 else 70) else 2
theorem chk_zero {a b c d : Int} {l : List Int} : chk a b c d l = 0 ↔ pOk a b c d ∧ (l.length : Int) = a + b ∧ l.any hBad = false := by
  unfold chk
  split
  · split <;> simp_all
  · simp_all
theorem check_f {k : Nat} (hk : 1 ≤ k) (a b c d : Int) (l : List Int) : vector_Check.f k a b c d l = some (chk a b c d l) := by
  unfold vector_Check.f chk
  rw [drives_f hk]
  simp only [Option.bind_some]
  by_cases h : pOk a b c d
  · simp only [if_pos h, if_true]
    by_cases h1 : (l.length : Int) = a + b
    · rw [if_pos h1]
      cases h2 : l.any hBad <;> simp [h1]
    · rw [if_neg h1, if_neg (by simp [h1])]
  · simp only [if_neg h]
    rw [if_neg (by decide)]
theorem version_f (x : Int) : vector_version.f x = some (!hBad x) := by
  unfold vector_version.f hBad
  by_cases h : x ≥ 1
  · rw [if_pos h]; simp [show (1 : Int) ≤ x from h]
  · rw [if_neg h]; simp [show ¬ (1 : Int) ≤ x from h]
theorem hBad_iff (x : Int) : hBad x = false ↔ 1 ≤ x ∧ x ≤ 1073741824 := by unfold hBad; simp
theorem rd_at {l : List Int} {i : Nat} (h : i < l.length) : rd l (i : Int) = l[i] := by simp [rd, h]
theorem rd_set {l : List Int} {i j : Nat} {x : Int} (h : j < l.length) : rd (l.set i x) (j : Int) = if i = j then x else rd l j := by
  rw [rd_at (by simpa using h), rd_at h, List.getElem_set]
theorem ext_rd {l1 l2 : List Int} (h : l1.length = l2.length) (hr : ∀ i, i < l1.length → rd l1 (i : Nat) = rd l2 (i : Nat)) : l1 = l2 := by
  refine List.ext_getElem h fun i h1 h2 => ?_
  rw [← rd_at h1, ← rd_at h2]; exact hr i h1
theorem w64s {n : Nat} (h : n < 4611686018427387904) : wrap64 ((n : Int) + 1) = ((n + 1 : Nat) : Int) := by unfold wrap64; omega
theorem same_l0 {x y : List Int} (hl : x.length = y.length) (hb : x.length < 4611686018427387904) : ∀ (d k i : Nat), i + d = x.length → d < k → twoslotref07_Same.l0 k x y (i : Int) = some (decide (x.drop i = y.drop i))
  | 0, k, i, h, hk => by
    obtain ⟨k, rfl⟩ : ∃ m, k = m + 1 := ⟨k - 1, by omega⟩
    simp only [twoslotref07_Same.l0]
    rw [if_neg (by omega), List.drop_of_length_le (by omega), List.drop_of_length_le (by omega)]
    simp
  | d + 1, k, i, h, hk => by
    obtain ⟨k, rfl⟩ : ∃ m, k = m + 1 := ⟨k - 1, by omega⟩
    simp only [twoslotref07_Same.l0]
    rw [if_pos (by omega), if_pos (by omega), if_pos (by omega), rd_at (by omega), rd_at (show i < y.length by omega), w64s (by omega), same_l0 hl hb d k (i + 1) (by omega) (by omega),
      List.drop_eq_getElem_cons (show i < x.length by omega), List.drop_eq_getElem_cons (show i < y.length by omega)]
    by_cases e : x[i] = y[i]
    · rw [if_pos e, e]; simp only [List.cons.injEq, true_and]
    · rw [if_neg e]; simp only [List.cons.injEq, e, false_and, decide_false]
theorem same_f {k : Nat} {x y : List Int} (hk : x.length < k) (hb : x.length < 4611686018427387904) : twoslotref07_Same.f k x y = some (decide (x = y)) := by
  unfold twoslotref07_Same.f
  by_cases h : (x.length : Int) = (y.length : Int)
  · rw [if_pos h, show (0 : Int) = ((0 : Nat) : Int) from rfl, same_l0 (by omega) hb x.length k 0 (by omega) hk]
    simp
  · rw [if_neg h]
    have : ¬ x = y := fun e => h (by rw [e])
    simp [this]
/-! ### the greatest version -/
theorem last_l0 {l : List Int} (hb : l.length < 4611686018427387904) : ∀ (d k i : Nat) (x : Int), i + d = l.length → d < k → vector_Last.l0 k x l (l.length : Int) (i : Int) = some ((l.drop i).foldl mx x, 0)
  | 0, k, i, x, h, hk => by
    obtain ⟨k, rfl⟩ : ∃ m, k = m + 1 := ⟨k - 1, by omega⟩
    simp only [vector_Last.l0]
    rw [if_neg (by omega), List.drop_of_length_le (by omega)]
    simp
  | d + 1, k, i, x, h, hk => by
    obtain ⟨k, rfl⟩ : ∃ m, k = m + 1 := ⟨k - 1, by omega⟩
    simp only [vector_Last.l0]
    rw [if_pos (by omega), if_pos (by omega), if_pos (by omega), rd_at (by omega), w64s (by omega), last_l0 hb d k (i + 1) _ (by omega) (by omega), List.drop_eq_getElem_cons (show i < l.length by omega), List.foldl_cons]
/-- a vector has few cells -/
theorem short {a b c d : Int} {l : List Int} (h : chk a b c d l = 0) : l.length ≤ 16 := by
  have := chk_zero.1 h
  have h2 := this.1
  unfold pOk at h2
  omega
theorem last_f {k : Nat} (hk : 20 ≤ k) (a b c d : Int) (l : List Int) : vector_Last.f k a b c d l = some (if chk a b c d l = 0 then (l.foldl mx 0, 0) else (0, chk a b c d l)) := by
  unfold vector_Last.f
  rw [check_f (by omega)]
  simp only [Option.bind_some]
  by_cases h : chk a b c d l = 0
  · have hs := short h
    rw [if_pos h, if_pos h, show (0 : Int) = ((0 : Nat) : Int) from rfl]
    exact last_l0 (by omega) l.length k 0 _ (by omega) (by omega)
  · rw [if_neg h, if_neg h]
/-! ### bumping -/
def bset (o cells : List Int) (tv : Int) : List Int := cells.foldl (fun o c => o.set c.toNat tv) o
def out (n : Nat) (c : Int) : Bool := decide (c < 0) || decide ((n : Int) ≤ c)
def bumped (n : Nat) (o cells : List Int) (tv : Int) : List Int × Int := if cells.any (out n) then ([], 2) else if hBad tv then ([], 70) else (bset o cells tv, 0)
theorem bump_l0 {l cells : List Int} {tv : Int} (hb : cells.length < 4611686018427387904) : ∀ (d k i : Nat) (o : List Int), i + d = cells.length → d < k → o.length = l.length →
    vector_Bump.l0 k l tv o cells (cells.length : Int) (i : Int) = some (bumped l.length o (cells.drop i) tv)
  | 0, k, i, o, h, hk, ho => by
    obtain ⟨k, rfl⟩ : ∃ m, k = m + 1 := ⟨k - 1, by omega⟩
    simp only [vector_Bump.l0]
    rw [if_neg (by omega), List.drop_of_length_le (by omega), version_f]
    unfold bumped bset
    cases hBad tv <;> simp
  | d + 1, k, i, o, h, hk, ho => by
    obtain ⟨k, rfl⟩ : ∃ m, k = m + 1 := ⟨k - 1, by omega⟩
    simp only [vector_Bump.l0]
    rw [if_pos (by omega), if_pos (by omega), if_pos (by omega), rd_at (by omega), w64s (by omega), List.drop_eq_getElem_cons (show i < cells.length by omega)]
    unfold bumped
    rw [List.any_cons]
    by_cases h1 : cells[i] < 0
    · rw [if_pos h1]; simp [out, h1]
    by_cases h2 : cells[i] ≥ (l.length : Int)
    · rw [if_neg h1, if_pos h2]; simp [out, show (l.length : Int) ≤ cells[i] from h2]
    rw [if_neg h1, if_neg h2, if_pos (by omega), if_pos (by omega), bump_l0 hb d k (i + 1) _ (by omega) (by omega) (by simpa using ho)]
    have h3 : out l.length cells[i] = false := by simp [out]; omega
    rw [h3]
    unfold bumped
    simp only [Bool.false_or, bset, List.foldl_cons]
theorem bump_f {k : Nat} (hk : 20 ≤ k) (a b c d : Int) (l cells : List Int) (tv : Int) : vector_Bump.f k a b c d l cells tv =
    some (if chk a b c d l = 0 then (if cells.length > l.length then ([], 20) else bumped l.length l cells tv) else ([], chk a b c d l)) := by
  unfold vector_Bump.f
  rw [check_f (by omega)]
  simp only [Option.bind_some]
  by_cases h : chk a b c d l = 0
  · have hs := short h
    rw [if_pos h, if_pos h]
    by_cases h2 : cells.length > l.length
    · rw [if_pos (by omega), if_pos h2]
    · rw [if_neg (by omega), if_neg h2]
      unfold slices_Clone_int_int.f
      rw [if_pos (by omega)]
      simp only [Option.bind_some]
      rw [show (0 : Int) = ((0 : Nat) : Int) from rfl, bump_l0 (by omega) cells.length k 0 l (by omega) (by omega) rfl]
      simp
  · rw [if_neg h, if_neg h]
/-! ### two vectors, cell by cell -/
def jn (x y : List Int) (n : Nat) : List Int := (List.range n).map fun i : Nat => mx (rd x i) (rd y i)
def bl (x y : List Int) (n : Nat) : Bool := (List.range n).all fun i : Nat => decide (rd x i ≤ rd y i)
def ul (x y : List Int) (n : Nat) : List Int := ((List.range n).filter fun i : Nat => decide (rd x i ≠ rd y i)).map Int.ofNat
theorem jn_len (x y : List Int) (n : Nat) : (jn x y n).length = n := by simp [jn]
theorem ul_len (x y : List Int) (n : Nat) : (ul x y n).length ≤ n := by
  unfold ul
  rw [List.length_map]
  refine Nat.le_trans (List.length_filter_le _ _) ?_
  simp
theorem hacc_join (x y : List Int) : ∀ n : Nat, n < 1000 → hacc vector_Join_1.f [] x y n = some (jn x y n)
  | 0, _ => rfl
  | n + 1, h => by
    unfold hacc
    rw [hacc_join x y n (by omega)]
    simp only [Option.bind_some, vector_Join_1.f]
    rw [if_pos (by rw [jn_len]; omega)]
    simp [jn, List.range_succ]
theorem hacc_below (x y : List Int) : ∀ n : Nat, hacc vector_Below_1.f true x y n = some (bl x y n)
  | 0 => rfl
  | n + 1 => by
    unfold hacc
    rw [hacc_below x y n]
    simp only [Option.bind_some, vector_Below_1.f]
    unfold bl
    rw [List.range_succ, List.all_append]
    cases ((List.range n).all fun i : Nat => decide (rd x i ≤ rd y i)) <;> simp
theorem hacc_unlike (x y : List Int) : ∀ n : Nat, n < 1000 → hacc vector_Unlike_1.f [] x y n = some (ul x y n)
  | 0, _ => rfl
  | n + 1, h => by
    unfold hacc
    rw [hacc_unlike x y n (by omega)]
    simp only [Option.bind_some, vector_Unlike_1.f]
    have hl := ul_len x y n
    unfold ul
    rw [List.range_succ, List.filter_append, List.map_append]
    by_cases e : rd x n = rd y n
    · rw [if_pos e]; simp [e]
    · rw [if_neg e, if_pos (by unfold ul at hl; omega)]; simp [e]
/-- the errors of two vectors -/
def chk2 (a b c d : Int) (x y : List Int) : Int := if chk a b c d x = 0 then chk a b c d y else chk a b c d x
theorem chk2_zero {a b c d : Int} {x y : List Int} : chk2 a b c d x y = 0 ↔ chk a b c d x = 0 ∧ chk a b c d y = 0 := by
  unfold chk2; split <;> simp_all
theorem same_len {a b c d : Int} {x y : List Int} (h : chk2 a b c d x y = 0) : x.length = y.length ∧ x.length ≤ 16 := by
  obtain ⟨h1, h2⟩ := chk2_zero.1 h
  have := short h1
  have h3 := (chk_zero.1 h1).2.1
  have h4 := (chk_zero.1 h2).2.1
  omega
theorem join_f {k : Nat} (hk : 20 ≤ k) (a b c d : Int) (x y : List Int) : vector_Join.f k a b c d x y = some (if chk2 a b c d x y = 0 then (jn x y x.length, 0) else ([], chk2 a b c d x y)) := by
  unfold vector_Join.f
  rw [check_f (by omega), check_f (by omega)]
  simp only [Option.bind_some]
  by_cases h : chk2 a b c d x y = 0
  · obtain ⟨h1, h2⟩ := chk2_zero.1 h
    have hs := same_len h
    rw [if_pos h, if_pos h1, if_pos h2, if_pos (by omega), hacc_join _ _ _ (by omega)]; rfl
  · rw [if_neg h]
    unfold chk2 at h ⊢
    by_cases h1 : chk a b c d x = 0
    · rw [if_pos h1] at h; rw [if_pos h1, if_pos h1, if_neg h]
    · rw [if_neg h1, if_neg h1]
theorem below_f {k : Nat} (hk : 20 ≤ k) (a b c d : Int) (x y : List Int) : vector_Below.f k a b c d x y = some (if chk2 a b c d x y = 0 then (bl x y x.length, 0) else (false, chk2 a b c d x y)) := by
  unfold vector_Below.f
  rw [check_f (by omega), check_f (by omega)]
  simp only [Option.bind_some]
  by_cases h : chk2 a b c d x y = 0
  · obtain ⟨h1, h2⟩ := chk2_zero.1 h
    have hs := same_len h
    rw [if_pos h, if_pos h1, if_pos h2, if_pos (by omega), hacc_below]; rfl
  · rw [if_neg h]
    unfold chk2 at h ⊢
    by_cases h1 : chk a b c d x = 0
    · rw [if_pos h1] at h; rw [if_pos h1, if_pos h1, if_neg h]
    · rw [if_neg h1, if_neg h1]
theorem unlike_f {k : Nat} (hk : 20 ≤ k) (a b c d : Int) (x y : List Int) : vector_Unlike.f k a b c d x y = some (if chk2 a b c d x y = 0 then (ul x y x.length, 0) else ([], chk2 a b c d x y)) := by
  unfold vector_Unlike.f
  rw [check_f (by omega), check_f (by omega)]
  simp only [Option.bind_some]
  by_cases h : chk2 a b c d x y = 0
  · obtain ⟨h1, h2⟩ := chk2_zero.1 h
    have hs := same_len h
    rw [if_pos h, if_pos h1, if_pos h2, if_pos (by omega), hacc_unlike _ _ _ (by omega)]; rfl
  · rw [if_neg h]
    unfold chk2 at h ⊢
    by_cases h1 : chk a b c d x = 0
    · rw [if_pos h1] at h; rw [if_pos h1, if_pos h1, if_neg h]
    · rw [if_neg h1, if_neg h1]
end Go.Proofs.Ytkmcjmhnoccedaa.Pure
