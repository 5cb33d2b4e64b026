/- What the document's answer of vector tells of parameters and of one vector, on lists. No condition. -/
import Derived.Test.YtkmcjmhnoccedaaPFx9
import Derived.Test.YtkmcjmhnoccedaaPFx10
import Derived.Test.YtkmcjmhnoccedaaPFx10
import Derived.Test.YtkmcjmhnoccedaaPFx9
import Derived.Test.YtkmcjmhnoccedaaPFx9
import Derived.Test.YtkmcjmhnoccedaaPFx9
import Derived.Test.YtkmcjmhnoccedaaPFx9
import Derived.Test.YtkmcjmhnoccedaaVecO
namespace Go.Proofs.Ytkmcjmhnoccedaa.Pure
open Go Go.RowKit Go.Proofs.Ytkmcjmhnoccedaa Go.Proofs.Ytkmcjmhnoccedaa.PF Go.Proofs.YtkmcjmhnoccedaaW.PrintWords Go.Proofs.YtkmcjmhnoccedaaW.PrintLast
theorem rmay06_f (a b c d : Int) : twoslotref06_May.f a b c d = some (decide (pOk a b c d)) := by
  unfold twoslotref06_May.f
  by_cases h1 : a ≥ 1
  case neg => rw [if_neg h1, decide_eq_false (fun z => by unfold pOk at z; omega)]
  rw [if_pos h1]
  by_cases h2 : a ≤ 12
  case neg => rw [if_neg h2, decide_eq_false (fun z => by unfold pOk at z; omega)]
  rw [if_pos h2]
  by_cases h3 : b ≥ 0
  case neg => rw [if_neg h3, decide_eq_false (fun z => by unfold pOk at z; omega)]
  rw [if_pos h3]
  by_cases h4 : b ≤ 4
  case neg => rw [if_neg h4, decide_eq_false (fun z => by unfold pOk at z; omega)]
  rw [if_pos h4]
  by_cases h5 : c ≥ 8
  case neg => rw [if_neg h5, decide_eq_false (fun z => by unfold pOk at z; omega)]
  rw [if_pos h5]
  by_cases h6 : c ≤ 64
  case neg => rw [if_neg h6, decide_eq_false (fun z => by unfold pOk at z; omega)]
  rw [if_pos h6]
  have hp := prod_le (a := a) (c := c) (by omega) (by omega) (by omega) (by omega)
  have hw : wrap64 (a * c) = a * c := by unfold wrap64; omega
  rw [hw]
  by_cases h7 : a * c ≥ 32
  case neg => rw [if_neg h7, decide_eq_false (fun z => by unfold pOk at z; omega)]
  rw [if_pos h7]
  by_cases h8 : d ≥ 8
  case neg => rw [if_neg h8, decide_eq_false (fun z => by unfold pOk at z; omega)]
  rw [if_pos h8]
  have h9 : d ≤ 256 ↔ pOk a b c d := by unfold pOk; omega
  have h10 : decide (d ≤ 256) = decide (pOk a b c d) := decide_eq_decide.2 h9
  rw [h10]
theorem rn_f {a b c d : Int} (h : pOk a b c d) : twoslotref06_N.f a b c d = some (a + b) := by
  unfold twoslotref06_N.f
  have : wrap64 (a + b) = a + b := by unfold pOk at h; unfold wrap64; omega
  rw [this]
theorem rversion_f (x : Int) : twoslotref07_Version.f x = some (!hBad x) := by
  unfold twoslotref07_Version.f hBad
  by_cases h : x ≥ 1
  · rw [if_pos h]; simp [show (1 : Int) ≤ x from h]
  · rw [if_neg h]; simp [show ¬ (1 : Int) ≤ x from h]
theorem rmay07_l0 {l : List Int} (hb : l.length < 4611686018427387904) : ∀ (d k i : Nat), i + d = l.length → d < k → twoslotref07_May.l0 k l (i : Int) = some (!(l.drop i).any hBad)
  | 0, k, i, h, hk => by
    obtain ⟨k, rfl⟩ : ∃ m, k = m + 1 := ⟨k - 1, by omega⟩
    simp only [twoslotref07_May.l0]
    rw [if_neg (by omega), List.drop_of_length_le (by omega)]
    rfl
  | d + 1, k, i, h, hk => by
    obtain ⟨k, rfl⟩ : ∃ m, k = m + 1 := ⟨k - 1, by omega⟩
    simp only [twoslotref07_May.l0]
    rw [if_pos (by omega), if_pos (by omega), rd_at (by omega), rversion_f]
    simp only [Option.bind_some]
    rw [List.drop_eq_getElem_cons (show i < l.length by omega), List.any_cons]
    cases hx : hBad l[i] with
    | true => simp
    | false =>
      simp only [Bool.not_false, if_true, Bool.false_or]
      rw [w64s (by omega), rmay07_l0 hb d k (i + 1) (by omega) (by omega)]
theorem rcheck_f {k : Nat} {l : List Int} (hk : l.length + 2 ≤ k) (hl : l.length < 100000) (a b c d : Int) : twoslotref07_Check.f k a b c d l = some (chk a b c d l) := by
  unfold twoslotref07_Check.f chk
  rw [rmay06_f]
  simp only [Option.bind_some]
  by_cases h : pOk a b c d
  case neg => rw [decide_eq_false h, if_neg (by decide), if_neg h]
  rw [decide_eq_true h, if_pos rfl, if_pos h]
  unfold twoslotref07_May.f
  rw [rn_f h]
  simp only [Option.bind_some]
  by_cases h1 : (l.length : Int) = a + b
  case neg => rw [if_neg h1, if_neg (fun z => h1 z.1)]; rfl
  have h0 : twoslotref07_May.l0 k l 0 = _ := rmay07_l0 (l := l) (by omega) l.length k 0 (by omega) (by omega)
  rw [if_pos h1, h0, List.drop_zero]
  cases h2 : l.any hBad <;> simp [h1]
theorem lent_f {l : List Int} (hl : l.length < 100000) : twoslotlaw07_lent.f l = some l := by
  unfold twoslotlaw07_lent.f
  rw [if_pos (by simp; omega)]
  simp only [Option.bind_some, List.nil_append]
  rw [if_pos (by omega)]
  rw [if_pos (by omega), if_pos (by simp; omega)]
  simp
theorem kept_f {k : Nat} {l : List Int} (hk : l.length < k) (hl : l.length < 100000) : twoslotlaw07_kept.f k l l = some true := by
  unfold twoslotlaw07_kept.f
  rw [same_f hk (by omega)]
  simp
theorem spoil_l0 : ∀ (d k i : Nat) (l : List Int), i + d = l.length → d < k → l.length < 100000 → ∃ z, twoslotlaw07_spoil.l0 k l (i : Int) = some z
  | 0, k, i, l, h, hk, hl => by
    obtain ⟨k, rfl⟩ : ∃ m, k = m + 1 := ⟨k - 1, by omega⟩
    simp only [twoslotlaw07_spoil.l0]
    rw [if_neg (by omega)]
    exact ⟨_, rfl⟩
  | d + 1, k, i, l, h, hk, hl => by
    obtain ⟨k, rfl⟩ : ∃ m, k = m + 1 := ⟨k - 1, by omega⟩
    simp only [twoslotlaw07_spoil.l0]
    rw [if_pos (by omega), if_pos (by omega), w64s (by omega)]
    exact spoil_l0 d k (i + 1) _ (by simp; omega) (by omega) (by simpa using hl)
theorem spoil_f {k : Nat} {l : List Int} (hk : l.length < k) (hl : l.length < 100000) : ∃ z, twoslotlaw07_spoil.f k l = some z := spoil_l0 l.length k 0 l (by omega) hk hl
end Go.Proofs.Ytkmcjmhnoccedaa.Pure
