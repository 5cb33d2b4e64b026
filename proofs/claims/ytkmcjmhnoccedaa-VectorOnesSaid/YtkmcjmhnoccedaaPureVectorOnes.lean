/- Checking, filling and bumping of any vector are what the document says. -/
import Derived.Test.YtkmcjmhnoccedaaPFx16
import Derived.Test.YtkmcjmhnoccedaaPFx14
import Derived.Test.YtkmcjmhnoccedaaPFx14
import Derived.Test.YtkmcjmhnoccedaaPFx15
import Derived.Test.YtkmcjmhnoccedaaPFx3
import Derived.Test.YtkmcjmhnoccedaaVecR
namespace Go.Proofs.Ytkmcjmhnoccedaa.Pure
open Go Go.RowKit Go.Proofs.Ytkmcjmhnoccedaa Go.Proofs.Ytkmcjmhnoccedaa.PF Go.Proofs.YtkmcjmhnoccedaaW.PrintWords Go.Proofs.YtkmcjmhnoccedaaW.PrintLast
/-- a vector that is alike everywhere -/
def al (a b c d v : Int) : List Int × Int := if pOk a b c d then (if hBad v then ([], 70) else (List.replicate (a + b).toNat v, 0)) else ([], 2)
theorem all_f {k : Nat} (hk : 20 ≤ k) (a b c d v : Int) : vector_All.f k a b c d v = some (al a b c d v) := by
  unfold vector_All.f al
  rw [drives_f (by omega)]
  simp only [Option.bind_some]
  by_cases h : pOk a b c d
  case neg => rw [if_neg h, if_neg h, if_neg (by decide)]
  rw [if_pos h, if_pos h]
  simp only [if_true]
  rw [version_f]
  simp only [Option.bind_some]
  have hp := h
  unfold pOk at hp
  cases hv : hBad v with
  | true => simp
  | false =>
    simp only [Bool.not_false, if_true, Bool.false_eq_true, if_false]
    unfold slices_Repeat_int_int.f
    rw [if_pos ⟨rfl, by omega, by omega⟩]
    have : rd [v] 0 = v := rfl
    rw [this]
    simp only [Option.bind_some]
theorem rall_l0 {v : Int} {n : Nat} (hn : n < 100000) : ∀ (d k i : Nat), i + d = n → d < k → twoslotref07_All.l0 k v (List.replicate i v ++ List.replicate d 0) (i : Int) = some (List.replicate n v, 0)
  | 0, k, i, h, hk => by
    obtain ⟨k, rfl⟩ : ∃ m, k = m + 1 := ⟨k - 1, by omega⟩
    simp only [twoslotref07_All.l0]
    rw [if_neg (by simp only [List.length_append, List.length_replicate]; omega)]
    simp only [List.replicate_zero, List.append_nil]
    rw [show i = n by omega]
  | d + 1, k, i, h, hk => by
    obtain ⟨k, rfl⟩ : ∃ m, k = m + 1 := ⟨k - 1, by omega⟩
    have ih := rall_l0 (v := v) hn d k (i + 1) (by omega) (by omega)
    simp only [twoslotref07_All.l0]
    rw [if_pos (by simp only [List.length_append, List.length_replicate]; omega), if_pos (by omega), w64s (by omega)]
    have e : (List.replicate i v ++ List.replicate (d + 1) (0 : Int)).set ((i : Int).toNat) v = List.replicate (i + 1) v ++ List.replicate d 0 := by
      rw [Int.toNat_natCast, List.set_append_right _ _ (by simp), List.length_replicate, Nat.sub_self, List.replicate_succ, List.set_cons_zero, List.replicate_succ', List.append_assoc]
      rfl
    rw [e]
    exact ih
theorem rall_f {k : Nat} (hk : 20 ≤ k) (a b c d v : Int) : twoslotref07_All.f k a b c d v = some (al a b c d v) := by
  unfold twoslotref07_All.f al
  rw [rmay06_f]
  simp only [Option.bind_some]
  by_cases h : pOk a b c d
  case neg => rw [decide_eq_false h, if_neg (by decide), if_neg h]
  rw [decide_eq_true h, if_pos rfl, if_pos h, rversion_f]
  simp only [Option.bind_some]
  have hp := h
  unfold pOk at hp
  cases hv : hBad v with
  | true => simp
  | false =>
    simp only [Bool.not_false, if_true, Bool.false_eq_true, if_false]
    rw [rn_f h]
    simp only [Option.bind_some]
    rw [if_pos (by omega), if_pos (by omega)]
    have e0 : twoslotref07_All.l0 k v ([] ++ List.replicate (a + b).toNat 0) 0 = _ := rall_l0 (v := v) (n := (a + b).toNat) (by omega) (a + b).toNat k 0 (by omega) (by omega)
    rw [List.nil_append] at e0
    rw [e0]
theorem rlast_l0 {l : List Int} (hb : l.length < 4611686018427387904) : ∀ (e k i : Nat) (x : Int), i + e = l.length → e < k → twoslotref07_Last.l0 k l x (i : Int) = some ((l.drop i).foldl mx x, 0)
  | 0, k, i, x, h, hk => by
    obtain ⟨k, rfl⟩ : ∃ m, k = m + 1 := ⟨k - 1, by omega⟩
    simp only [twoslotref07_Last.l0]
    rw [if_neg (by omega), List.drop_of_length_le (by omega)]
    simp
  | e + 1, k, i, x, h, hk => by
    obtain ⟨k, rfl⟩ : ∃ m, k = m + 1 := ⟨k - 1, by omega⟩
    simp only [twoslotref07_Last.l0]
    rw [if_pos (by omega), if_pos (by omega), rd_at (by omega), w64s (by omega), rlast_l0 hb e k (i + 1) _ (by omega) (by omega), List.drop_eq_getElem_cons (show i < l.length by omega), List.foldl_cons]
theorem rlast_f {k : Nat} {l : List Int} (hk : 300 ≤ k) (hl : l.length ≤ 200) (a b c d : Int) : twoslotref07_Last.f k a b c d l = some (if chk a b c d l = 0 then (l.foldl mx 0, 0) else (0, chk a b c d l)) := by
  unfold twoslotref07_Last.f
  rw [rcheck_f (by omega) (by omega)]
  simp only [Option.bind_some]
  by_cases h : chk a b c d l = 0
  · have e0 : twoslotref07_Last.l0 k l 0 0 = _ := rlast_l0 (l := l) (by omega) l.length k 0 0 (by omega) (by omega)
    rw [if_pos h, if_pos h, e0, List.drop_zero]
  · rw [if_neg h, if_neg h]
theorem rbump_l0 {l cells : List Int} {tv : Int} (hb : cells.length < 4611686018427387904) : ∀ (d k i : Nat) (o : List Int), i + d = cells.length → d < k → o.length = l.length →
    twoslotref07_Bump.l0 k l cells tv o (i : Int) = some (bumped l.length o (cells.drop i) tv)
  | 0, k, i, o, h, hk, ho => by
    obtain ⟨k, rfl⟩ : ∃ m, k = m + 1 := ⟨k - 1, by omega⟩
    simp only [twoslotref07_Bump.l0]
    rw [if_neg (by omega), List.drop_of_length_le (by omega), rversion_f]
    unfold bumped bset
    cases hBad tv <;> simp
  | d + 1, k, i, o, h, hk, ho => by
    obtain ⟨k, rfl⟩ : ∃ m, k = m + 1 := ⟨k - 1, by omega⟩
    simp only [twoslotref07_Bump.l0]
    rw [if_pos (by omega), if_pos (by omega), rd_at (by omega), w64s (by omega), List.drop_eq_getElem_cons (show i < cells.length by omega)]
    unfold bumped
    rw [List.any_cons]
    by_cases h1 : cells[i] < 0
    · rw [if_pos h1]; simp [out, h1]
    by_cases h2 : cells[i] ≥ (l.length : Int)
    · rw [if_neg h1, if_pos h2]; simp [out, show (l.length : Int) ≤ cells[i] from h2]
    rw [if_neg h1, if_neg h2, if_pos (by omega), if_pos (by omega), rbump_l0 hb d k (i + 1) _ (by omega) (by omega) (by simpa using ho)]
    have h3 : out l.length cells[i] = false := by simp [out]; omega
    rw [h3]
    unfold bumped
    simp only [Bool.false_or, bset, List.foldl_cons]
theorem rbump_f {k : Nat} {l : List Int} (hk : 300 ≤ k) (hl : l.length ≤ 200) (a b c d : Int) (cells : List Int) (tv : Int) : twoslotref07_Bump.f k a b c d l cells tv =
    some (if chk a b c d l = 0 then (if cells.length > l.length then ([], 20) else bumped l.length l cells tv) else ([], chk a b c d l)) := by
  unfold twoslotref07_Bump.f
  rw [rcheck_f (by omega) (by omega)]
  simp only [Option.bind_some]
  by_cases h : chk a b c d l = 0
  · rw [if_pos h, if_pos h]
    by_cases h2 : cells.length > l.length
    · rw [if_pos (by omega), if_pos h2]
    · rw [if_neg (by omega), if_neg h2, if_pos (by simp; omega), List.nil_append]
      have e0 : twoslotref07_Bump.l0 k l cells tv l 0 = _ := rbump_l0 (l := l) (cells := cells) (tv := tv) (by omega) cells.length k 0 l (by omega) (by omega) rfl
      rw [e0, List.drop_zero]
  · rw [if_neg h, if_neg h]
theorem bset_len (tv : Int) : ∀ (cells o : List Int), (bset o cells tv).length = o.length
  | [], _ => rfl
  | c :: cells, o => by
    have := bset_len tv cells (o.set c.toNat tv)
    simpa [bset] using this
theorem VectorOnes : twoslotlaw07_VectorOnes.Pure := by
  intro a b c d x y v _ _ _ _ _ _ _
  obtain ⟨m, hm⟩ : ∃ k, 2000 ≤ k := ⟨2000, Nat.le_refl _⟩
  refine ⟨m + 1 + 1, ?_⟩
  unfold twoslotlaw07_VectorOnes.f
  rw [alive_f (by omega)]
  simp only [Option.bind_some, if_true]
  have hz : twoslotlaw07_VectorOnes.j0 (m + 1 + 1) x y v true a b c d = some true := by simp only [twoslotlaw07_VectorOnes.j0, if_true]
  by_cases h1 : (x.length : Int) > 200
  · rw [if_pos h1]; exact hz
  rw [if_neg h1]
  by_cases h2 : (y.length : Int) > 200
  · rw [decide_eq_true h2]; exact hz
  rw [decide_eq_false h2]
  simp only [twoslotlaw07_VectorOnes.j0, Bool.false_eq_true, if_false]
  rw [lent_f (by omega), lent_f (by omega)]
  simp only [Option.bind_some]
  have hA : (al a b c d v).1.length < 1000 := by
    unfold al
    split
    · rename_i hp
      unfold pOk at hp
      split
      · simp
      · simp only [List.length_replicate]; omega
    · simp
  have hB : (if chk a b c d x = 0 then (if y.length > x.length then ([], (20 : Int)) else bumped x.length x y v) else ([], chk a b c d x)).1.length < 1000 := by
    split
    · split
      · simp
      · unfold bumped
        split
        · simp
        · split
          · simp
          · simp only [bset_len]; omega
    · simp
  have hb : ∀ k, 300 ≤ k → vector_Bump.f k a b c d x y v = some (if chk a b c d x = 0 then (if y.length > x.length then ([], (20 : Int)) else bumped x.length x y v) else ([], chk a b c d x)) := fun k hk => bump_f (by omega) a b c d x y v
  rw [all_f (by omega), last_f (by omega), hb _ (by omega), rall_f (by omega), rlast_f (by omega) (by omega), rbump_f (by omega) (by omega)]
  simp only [Option.bind_some]
  generalize (if chk a b c d x = 0 then (if y.length > x.length then ([], (20 : Int)) else bumped x.length x y v) else ([], chk a b c d x)) = B at hb hB
  generalize al a b c d v = A at hA
  generalize (if chk a b c d x = 0 then (x.foldl mx 0, (0 : Int)) else (0, chk a b c d x)) = L
  rw [same_f (by omega) (by omega)]
  simp only [decide_true, Option.bind_some, if_true]
  rw [same_f (by omega) (by omega), check_f (by omega), rcheck_f (by omega) (by omega)]
  simp only [decide_true, Option.bind_some, if_true, beq_self_eq_true]
  obtain ⟨z1, e1⟩ := spoil_f (k := m) (l := A.1) (by omega) (by omega)
  obtain ⟨z2, e2⟩ := spoil_f (k := m) (l := B.1) (by omega) (by omega)
  have k1 : twoslotlaw07_kept.f m x x = some true := kept_f (by omega) (by omega)
  have k2 : twoslotlaw07_kept.f m y y = some true := kept_f (by omega) (by omega)
  have k3 : twoslotref07_Same.f m B.1 B.1 = some true := by rw [same_f (by omega) (by omega)]; simp
  simp only [twoslotlaw07_VectorOnes.j1]
  rw [e1, e2, hb _ (by omega)]
  simp only [k1, k2, k3, Option.bind_some, if_true, beq_self_eq_true]
end Go.Proofs.Ytkmcjmhnoccedaa.Pure
