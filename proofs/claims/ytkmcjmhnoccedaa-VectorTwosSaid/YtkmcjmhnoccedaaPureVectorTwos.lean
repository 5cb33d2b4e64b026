/- Joining and comparing any two vectors is what the document says. -/
import Derived.Test.YtkmcjmhnoccedaaPFx13
import Derived.Test.YtkmcjmhnoccedaaPFx11
import Derived.Test.YtkmcjmhnoccedaaPFx12
import Derived.Test.YtkmcjmhnoccedaaPFx12
import Derived.Test.YtkmcjmhnoccedaaPFx10
import Derived.Test.YtkmcjmhnoccedaaVecR
namespace Go.Proofs.Ytkmcjmhnoccedaa.Pure
open Go Go.RowKit Go.Proofs.Ytkmcjmhnoccedaa Go.Proofs.Ytkmcjmhnoccedaa.PF Go.Proofs.YtkmcjmhnoccedaaW.PrintWords Go.Proofs.YtkmcjmhnoccedaaW.PrintLast
theorem rtwo_f {k : Nat} {x y : List Int} (hk : x.length + 2 ≤ k) (hk2 : y.length + 2 ≤ k) (hx : x.length < 100000) (hy : y.length < 100000) (a b c d : Int) : twoslotref07_two.f k a b c d x y = some (chk2 a b c d x y) := by
  unfold twoslotref07_two.f chk2
  rw [rcheck_f hk hx]
  simp only [Option.bind_some]
  by_cases h : chk a b c d x = 0
  · rw [if_pos h, if_pos h, rcheck_f hk2 hy]; rfl
  · rw [if_neg h, if_neg h]
theorem jn_succ (x y : List Int) (n : Nat) : jn x y (n + 1) = jn x y n ++ [mx (rd x (n : Nat)) (rd y (n : Nat))] := by
  simp [jn, List.range_succ]
theorem ul_succ (x y : List Int) (n : Nat) : ul x y (n + 1) = ul x y n ++ (if rd x (n : Nat) = rd y (n : Nat) then [] else [(n : Int)]) := by
  simp only [ul, List.range_succ, List.filter_append, List.map_append]
  congr 1
  by_cases h : rd x (n : Nat) = rd y (n : Nat)
  · simp [h]
  · simp [h]
theorem rjoin_l0 {x y : List Int} (hxy : x.length = y.length) (hb : x.length ≤ 16) : ∀ (e k i : Nat), i + e = x.length → e < k → twoslotref07_Join.l0 k x y (jn x y i) (i : Int) = some (jn x y x.length, 0)
  | 0, k, i, h, hk => by
    obtain ⟨k, rfl⟩ : ∃ m, k = m + 1 := ⟨k - 1, by omega⟩
    simp only [twoslotref07_Join.l0]
    rw [if_neg (by omega), show i = x.length by omega]
  | e + 1, k, i, h, hk => by
    obtain ⟨k, rfl⟩ : ∃ m, k = m + 1 := ⟨k - 1, by omega⟩
    simp only [twoslotref07_Join.l0]
    rw [if_pos (by omega), if_pos (by omega), if_pos (by omega), if_pos (by rw [jn_len]; omega), w64s (by omega), ← jn_succ]
    exact rjoin_l0 hxy hb e k (i + 1) (by omega) (by omega)
theorem rbelow_l0 {x y : List Int} (hxy : x.length = y.length) (hb : x.length ≤ 16) : ∀ (e k i : Nat), i + e = x.length → e < k → bl x y i = true → twoslotref07_Below.l0 k x y (i : Int) = some (bl x y x.length, 0)
  | 0, k, i, h, hk, hi => by
    obtain ⟨k, rfl⟩ : ∃ m, k = m + 1 := ⟨k - 1, by omega⟩
    simp only [twoslotref07_Below.l0]
    rw [if_neg (by omega), ← show i = x.length by omega, hi]
  | e + 1, k, i, h, hk, hi => by
    obtain ⟨k, rfl⟩ : ∃ m, k = m + 1 := ⟨k - 1, by omega⟩
    simp only [twoslotref07_Below.l0]
    rw [if_pos (by omega), if_pos (by omega), if_pos (by omega)]
    by_cases hg : rd x (i : Nat) > rd y (i : Nat)
    · have : bl x y x.length = false := by
        rw [Bool.eq_false_iff]
        intro hz
        have := bl_iff.1 hz i (by omega)
        omega
      rw [if_pos hg, this]
    · rw [if_neg hg, w64s (by omega)]
      refine rbelow_l0 hxy hb e k (i + 1) (by omega) (by omega) (bl_iff.2 fun j hj => ?_)
      by_cases hji : j < i
      · exact bl_iff.1 hi j hji
      · obtain rfl : j = i := by omega
        omega
theorem runlike_l0 {x y : List Int} (hxy : x.length = y.length) (hb : x.length ≤ 16) : ∀ (e k i : Nat), i + e = x.length → e < k → twoslotref07_Unlike.l0 k x y (ul x y i) (i : Int) = some (ul x y x.length, 0)
  | 0, k, i, h, hk => by
    obtain ⟨k, rfl⟩ : ∃ m, k = m + 1 := ⟨k - 1, by omega⟩
    simp only [twoslotref07_Unlike.l0]
    rw [if_neg (by omega), show i = x.length by omega]
  | e + 1, k, i, h, hk => by
    obtain ⟨k, rfl⟩ : ∃ m, k = m + 1 := ⟨k - 1, by omega⟩
    have hu := ul_len x y i
    have hs := ul_succ x y i
    have ih := runlike_l0 hxy hb e k (i + 1) (by omega) (by omega)
    simp only [twoslotref07_Unlike.l0]
    rw [if_pos (by omega), if_pos (by omega), if_pos (by omega)]
    by_cases hg : rd x (i : Nat) = rd y (i : Nat)
    · rw [if_pos hg, w64s (by omega)]
      rw [if_pos hg, List.append_nil] at hs
      rw [← hs]; exact ih
    · rw [if_neg hg, if_pos (by omega), w64s (by omega)]
      rw [if_neg hg] at hs
      rw [← hs]; exact ih
theorem rjoin_f {k : Nat} {x y : List Int} (hk : 300 ≤ k) (hx : x.length ≤ 200) (hy : y.length ≤ 200) (a b c d : Int) : twoslotref07_Join.f k a b c d x y = some (if chk2 a b c d x y = 0 then (jn x y x.length, 0) else ([], chk2 a b c d x y)) := by
  unfold twoslotref07_Join.f
  rw [rtwo_f (by omega) (by omega) (by omega) (by omega)]
  simp only [Option.bind_some]
  by_cases h : chk2 a b c d x y = 0
  · have hl := same_len h
    have e0 : twoslotref07_Join.l0 k x y [] 0 = _ := rjoin_l0 hl.1 hl.2 x.length k 0 (by omega) (by omega)
    rw [if_pos h, if_pos h, e0]
  · rw [if_neg h, if_neg h]
theorem rbelow_f {k : Nat} {x y : List Int} (hk : 300 ≤ k) (hx : x.length ≤ 200) (hy : y.length ≤ 200) (a b c d : Int) : twoslotref07_Below.f k a b c d x y = some (if chk2 a b c d x y = 0 then (bl x y x.length, 0) else (false, chk2 a b c d x y)) := by
  unfold twoslotref07_Below.f
  rw [rtwo_f (by omega) (by omega) (by omega) (by omega)]
  simp only [Option.bind_some]
  by_cases h : chk2 a b c d x y = 0
  · have hl := same_len h
    have e0 : twoslotref07_Below.l0 k x y 0 = _ := rbelow_l0 hl.1 hl.2 x.length k 0 (by omega) (by omega) (by simp [bl])
    rw [if_pos h, if_pos h, e0]
  · rw [if_neg h, if_neg h]
theorem runlike_f {k : Nat} {x y : List Int} (hk : 300 ≤ k) (hx : x.length ≤ 200) (hy : y.length ≤ 200) (a b c d : Int) : twoslotref07_Unlike.f k a b c d x y = some (if chk2 a b c d x y = 0 then (ul x y x.length, 0) else ([], chk2 a b c d x y)) := by
  unfold twoslotref07_Unlike.f
  rw [rtwo_f (by omega) (by omega) (by omega) (by omega)]
  simp only [Option.bind_some]
  by_cases h : chk2 a b c d x y = 0
  · have hl := same_len h
    have e0 : twoslotref07_Unlike.l0 k x y [] 0 = _ := runlike_l0 hl.1 hl.2 x.length k 0 (by omega) (by omega)
    rw [if_pos h, if_pos h, e0]
  · rw [if_neg h, if_neg h]
theorem VectorTwos : twoslotlaw07_VectorTwos.Pure := by
  intro a b c d x y _ _ _ _ _ _
  obtain ⟨m, hm⟩ : ∃ k, 2000 ≤ k := ⟨2000, Nat.le_refl _⟩
  refine ⟨m + 1 + 1, ?_⟩
  unfold twoslotlaw07_VectorTwos.f
  rw [alive_f (by omega)]
  simp only [Option.bind_some, if_true]
  have hz : twoslotlaw07_VectorTwos.j0 (m + 1 + 1) x y true a b c d = some true := by simp only [twoslotlaw07_VectorTwos.j0, if_true]
  by_cases h1 : (x.length : Int) > 200
  · rw [if_pos h1]; exact hz
  rw [if_neg h1]
  by_cases h2 : (y.length : Int) > 200
  · rw [decide_eq_true h2]; exact hz
  rw [decide_eq_false h2]
  simp only [twoslotlaw07_VectorTwos.j0, Bool.false_eq_true, if_false]
  rw [lent_f (by omega), lent_f (by omega)]
  simp only [Option.bind_some]
  rw [join_f (by omega), below_f (by omega), unlike_f (by omega), rjoin_f (by omega) (by omega) (by omega), rbelow_f (by omega) (by omega) (by omega), runlike_f (by omega) (by omega) (by omega)]
  simp only [Option.bind_some]
  have hJ : (if chk2 a b c d x y = 0 then (jn x y x.length, (0 : Int)) else ([], chk2 a b c d x y)).1.length < 1000 := by
    split
    · simp only [jn_len]; omega
    · simp
  have hU : (if chk2 a b c d x y = 0 then (ul x y x.length, (0 : Int)) else ([], chk2 a b c d x y)).1.length < 1000 := by
    split
    · have := ul_len x y x.length; simp only; omega
    · simp
  generalize (if chk2 a b c d x y = 0 then (jn x y x.length, (0 : Int)) else ([], chk2 a b c d x y)) = J at hJ
  generalize (if chk2 a b c d x y = 0 then (ul x y x.length, (0 : Int)) else ([], chk2 a b c d x y)) = U at hU
  generalize (if chk2 a b c d x y = 0 then (bl x y x.length, (0 : Int)) else (false, chk2 a b c d x y)) = B
  rw [same_f (by omega) (by omega)]
  simp only [decide_true, Option.bind_some, if_true, beq_self_eq_true]
  rw [same_f (by omega) (by omega)]
  simp only [decide_true, Option.bind_some, if_true]
  obtain ⟨z1, e1⟩ := spoil_f (k := m) (l := J.1) (by omega) (by omega)
  obtain ⟨z2, e2⟩ := spoil_f (k := m) (l := U.1) (by omega) (by omega)
  simp only [twoslotlaw07_VectorTwos.j1]
  have k1 : twoslotlaw07_kept.f m x x = some true := kept_f (by omega) (by omega)
  have k2 : twoslotlaw07_kept.f m y y = some true := kept_f (by omega) (by omega)
  first | rw [e1] | skip
  simp only [e1, e2, k1, k2, Option.bind_some, if_true, beq_self_eq_true]
end Go.Proofs.Ytkmcjmhnoccedaa.Pure
