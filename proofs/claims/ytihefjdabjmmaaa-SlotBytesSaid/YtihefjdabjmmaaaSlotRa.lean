/- What the document's answer of slot tells of parameters and slots, in plain lists. No condition. -/
import Derived.Test.YtihefjdabjmmaaaPEx8
import Derived.Test.YtihefjdabjmmaaaPEx10
import Derived.Test.YtihefjdabjmmaaaSlotA
namespace Go.Proofs.Ytihefjdabjmmaaa.Pure
open Go Go.RowKit Go.Proofs.Ytihefjdabjmmaaa Go.Proofs.Ytihefjdabjmmaaa.PE Go.Proofs.YtihefjdabjmmaaaW.PrintWords Go.Proofs.YtihefjdabjmmaaaW.PrintLast Go.Proofs.YtihefjdabjmmaaaW.PrintMore
theorem rmay06_f (a b c d : Int) : twoslotref06_May.f a b c d = some (decide (pOk a b c d)) := by
  unfold twoslotref06_May.f
  by_cases h1 : a ≥ 1
  case neg => rw [if_neg h1, decide_eq_false (fun z => by unfold pOk at z; omega)]
  rw [if_pos h1]
  by_cases h2 : a ≤ 12
  case neg => rw [if_neg h2, decide_eq_false (fun z => by unfold pOk at z; omega)]
  rw [if_pos h2]
  by_cases h3 : b ≥ 0
  case neg => rw [if_neg h3, decide_eq_false (fun z => by unfold pOk at z; omega)]
  rw [if_pos h3]
  by_cases h4 : b ≤ 4
  case neg => rw [if_neg h4, decide_eq_false (fun z => by unfold pOk at z; omega)]
  rw [if_pos h4]
  by_cases h5 : c ≥ 8
  case neg => rw [if_neg h5, decide_eq_false (fun z => by unfold pOk at z; omega)]
  rw [if_pos h5]
  by_cases h6 : c ≤ 64
  case neg => rw [if_neg h6, decide_eq_false (fun z => by unfold pOk at z; omega)]
  rw [if_pos h6]
  have hp := prod_le (a := a) (c := c) (by omega) (by omega) (by omega) (by omega)
  have hw : wrap64 (a * c) = a * c := by unfold wrap64; omega
  rw [hw]
  by_cases h7 : a * c ≥ 32
  case neg => rw [if_neg h7, decide_eq_false (fun z => by unfold pOk at z; omega)]
  rw [if_pos h7]
  by_cases h8 : d ≥ 8
  case neg => rw [if_neg h8, decide_eq_false (fun z => by unfold pOk at z; omega)]
  rw [if_pos h8]
  have h9 : d ≤ 256 ↔ pOk a b c d := by unfold pOk; omega
  have h10 : decide (d ≤ 256) = decide (pOk a b c d) := decide_eq_decide.2 h9
  rw [h10]
theorem rn_f {a b c d : Int} (h : pOk a b c d) : twoslotref06_N.f a b c d = some (a + b) := by
  unfold twoslotref06_N.f
  have : wrap64 (a + b) = a + b := by unfold pOk at h; unfold wrap64; omega
  rw [this]
theorem rsize06_f {a b c d : Int} (h : pOk a b c d) : twoslotref06_Size.f a b c d = some (12 + 4 * (a + b) + c) := by
  unfold twoslotref06_Size.f
  rw [rn_f h]
  simp only [Option.bind_some]
  unfold pOk at h
  have : wrap64 (wrap64 (12 + wrap64 (4 * (a + b))) + c) = 12 + 4 * (a + b) + c := by unfold wrap64; omega
  rw [this]
theorem rversion_f (x : Int) : twoslotref10_Version.f x = some (!hBad x) := by
  unfold twoslotref10_Version.f hBad
  by_cases h : x ≥ 1
  · rw [if_pos h]; simp [show (1 : Int) ≤ x from h]
  · rw [if_neg h]; simp [show ¬ (1 : Int) ≤ x from h]
theorem rlast_l0 {l : List Int} (hb : l.length < 4611686018427387904) : ∀ (e k i : Nat) (x : Int), i + e = l.length → e < k → twoslotref10_Last.l0 k l x (i : Int) = some (if (l.drop i).any hBad then 0 else (l.drop i).foldl mx x)
  | 0, k, i, x, h, hk => by
    obtain ⟨k, rfl⟩ : ∃ m, k = m + 1 := ⟨k - 1, by omega⟩
    simp only [twoslotref10_Last.l0]
    rw [if_neg (by omega), List.drop_of_length_le (by omega)]
    simp
  | e + 1, k, i, x, h, hk => by
    obtain ⟨k, rfl⟩ : ∃ m, k = m + 1 := ⟨k - 1, by omega⟩
    simp only [twoslotref10_Last.l0]
    rw [if_pos (by omega), if_pos (by omega), rd_at (by omega), rversion_f]
    simp only [Option.bind_some]
    rw [List.drop_eq_getElem_cons (show i < l.length by omega), List.any_cons]
    cases hx : hBad l[i] with
    | true => simp
    | false =>
      simp only [Bool.not_false, if_true, Bool.false_or]
      rw [w64s (by omega), rlast_l0 hb e k (i + 1) _ (by omega) (by omega), List.foldl_cons]
theorem rlast_f {k : Nat} (hk : 20 ≤ k) {a b c d : Int} (h : pOk a b c d) (v : List Int) : twoslotref10_Last.f k a b c d v = some (if chk a b c d v = 0 then v.foldl mx 0 else 0) := by
  unfold twoslotref10_Last.f
  rw [rn_f h]
  simp only [Option.bind_some]
  have hp := h
  unfold pOk at hp
  by_cases hl : (v.length : Int) = a + b
  · have h0 : twoslotref10_Last.l0 k v 0 0 = _ := rlast_l0 (l := v) (by omega) v.length k 0 0 (by omega) (by omega)
    rw [if_pos hl, h0, List.drop_zero]
    by_cases hg : v.any hBad = true
    · rw [if_pos hg, if_neg (fun z => by have := (chk_zero.1 z).2.2; simp_all)]
    · rw [if_neg hg, if_pos (chk_zero.2 ⟨h, hl, by simpa using hg⟩)]
  · rw [if_neg hl, if_neg (fun z => hl (chk_zero.1 z).2.1)]
theorem last_pos {a b c d : Int} {v : List Int} (h : chk a b c d v = 0) : 0 < v.foldl mx 0 ∧ v.foldl mx 0 ≤ 1073741824 := by
  obtain ⟨h1, h2, h3⟩ := chk_zero.1 h
  have hb := bad_rd.1 h3
  have key : ∀ (l : List Int) (x : Int), (∀ y ∈ l, 1 ≤ y ∧ y ≤ 1073741824) → 0 ≤ x → x ≤ 1073741824 → (0 < x ∨ l ≠ []) → 0 < l.foldl mx x ∧ l.foldl mx x ≤ 1073741824 := by
    intro l
    induction l with
    | nil => intro x _ h0 h1 h2; simpa using ⟨by rcases h2 with h2 | h2 <;> simp_all, h1⟩
    | cons y l ih =>
      intro x hl h0 h1 _
      have hy := hl y (by simp)
      rw [List.foldl_cons]
      exact ih (mx x y) (fun z hz => hl z (by simp [hz])) (by rw [mx_eq]; split <;> omega) (by rw [mx_eq]; split <;> omega) (.inl (by rw [mx_eq]; split <;> omega))
  refine key v 0 (fun y hy => ?_) (by omega) (by omega) (.inr (fun e => ?_))
  · have := List.any_eq_false.1 h3 y hy
    rw [Bool.not_eq_true, hBad_iff] at this
    exact this
  · unfold pOk at h1; rw [e] at h2; simp at h2; omega
theorem rmay_f {k : Nat} (hk : 30 ≤ k) {a b c d : Int} (h : pOk a b c d) (kind index cell stripe : Int) (v data : List Int) : twoslotref10_May.f k a b c d kind index cell stripe v data = some (decide (sMay a b c d kind index cell stripe v data)) := by
  obtain ⟨k, rfl⟩ : ∃ m, k = m + 1 := ⟨k - 1, by omega⟩
  have h0 : twoslotref10_May.j0 (k + 1) true a b c d kind index cell stripe v data = some false := by simp only [twoslotref10_May.j0, if_true]
  have h1 : (kind = 1 ∨ kind = 2) → 0 ≤ index → index < a + b → twoslotref10_May.j0 (k + 1) ((data.length : Int) != c) a b c d kind index cell stripe v data = some (decide (sMay a b c d kind index cell stripe v data)) := by
    intro hk1 hi1 hi2
    by_cases hd : (data.length : Int) = c
    case neg => rw [bne_iff_ne.2 hd, h0, decide_eq_false (fun z => hd z.2.2.2.2.2.2)]
    rw [hd, bne_self_eq_false]
    simp only [twoslotref10_May.j0, Bool.false_eq_true, if_false]
    rw [rlast_f (by omega) h]
    simp only [Option.bind_some]
    by_cases hc : chk a b c d v = 0
    case neg => rw [if_neg hc, if_neg (by decide), decide_eq_false (fun z => hc z.1)]
    have hp := last_pos hc
    have hl := (chk_zero.1 hc).2.1
    rw [if_pos hc, if_pos hp.1]
    by_cases hs : stripe = v.foldl mx 0
    case neg => rw [if_neg hs, decide_eq_false (fun z => hs z.2.1)]
    rw [if_pos hs, if_pos hi1, if_pos (by omega)]
    have h7 : sMay a b c d kind index cell stripe v data ↔ cell = rd v index := ⟨fun z => z.2.2.2.2.2.1, fun z => ⟨hc, hs, hi1, by omega, hk1, z, hd⟩⟩
    have h8 : decide (sMay a b c d kind index cell stripe v data) = decide (cell = rd v index) := decide_eq_decide.2 h7
    rw [h8]; rfl
  have h2 : (kind = 1 ∨ kind = 2) → (if index < 0 then (twoslotref10_May.j0 (k + 1) true a b c d kind index cell stripe v data) else ((twoslotref06_N.f a b c d).bind fun t => (if index ≥ t then (twoslotref10_May.j0 (k + 1) true a b c d kind index cell stripe v data) else (twoslotref10_May.j0 (k + 1) ((data.length : Int) != c) a b c d kind index cell stripe v data)))) = some (decide (sMay a b c d kind index cell stripe v data)) := by
    intro hk1
    by_cases hi : index < 0
    · rw [if_pos hi, h0, decide_eq_false (fun z => by have := z.2.2.1; omega)]
    rw [if_neg hi, rn_f h]
    simp only [Option.bind_some]
    by_cases hi2 : index ≥ a + b
    · rw [if_pos hi2, h0, decide_eq_false (fun z => by have := z.2.2.2.1; have := (chk_zero.1 z.1).2.1; omega)]
    rw [if_neg hi2]
    exact h1 hk1 (by omega) (by omega)
  unfold twoslotref10_May.f
  by_cases k1 : kind = 1
  · rw [if_pos k1]; exact h2 (.inl k1)
  by_cases k2 : kind = 2
  · rw [if_neg k1, if_pos k2]; exact h2 (.inr k2)
  · rw [if_neg k1, if_neg k2, h0, decide_eq_false (fun z => by have := z.2.2.2.2.1; omega)]
theorem same_l0 {v data w data' : List Int} {kind index cell stripe kind' index' cell' stripe' : Int} (hv : v = w) (hb : v.length < 4611686018427387904) : ∀ (e k i : Nat), i + e = v.length → e < k →
    twoslotref10_Same.l0 k (i : Int) kind index cell stripe v data kind' index' cell' stripe' w data' = some true
  | 0, k, i, h, hk => by
    obtain ⟨k, rfl⟩ : ∃ m, k = m + 1 := ⟨k - 1, by omega⟩
    simp only [twoslotref10_Same.l0]
    rw [if_neg (by omega)]
  | e + 1, k, i, h, hk => by
    obtain ⟨k, rfl⟩ : ∃ m, k = m + 1 := ⟨k - 1, by omega⟩
    simp only [twoslotref10_Same.l0]
    subst hv
    rw [if_pos (by omega), if_pos (by omega), if_pos (by omega), if_pos rfl, w64s (by omega)]
    exact same_l0 rfl hb e k (i + 1) (by omega) (by omega)
theorem same_refl {k : Nat} {v data : List Int} (hk : v.length + 2 ≤ k) (hb : v.length < 4611686018427387904) (kind index cell stripe : Int) : twoslotref10_Same.f k kind index cell stripe v data kind index cell stripe v data = some true := by
  obtain ⟨k, rfl⟩ : ∃ m, k = m + 1 := ⟨k - 1, by omega⟩
  unfold twoslotref10_Same.f
  rw [if_pos rfl, if_pos rfl, if_pos rfl, if_pos rfl, if_pos rfl, bne_self_eq_false]
  simp only [twoslotref10_Same.j0, Bool.false_eq_true, if_false]
  exact same_l0 rfl hb v.length k 0 (by omega) (by omega)
end Go.Proofs.Ytihefjdabjmmaaa.Pure
