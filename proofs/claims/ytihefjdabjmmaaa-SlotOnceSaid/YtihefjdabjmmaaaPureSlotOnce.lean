/- Bytes that are read as a slot are just that slot's bytes. -/
import Derived.Test.YtihefjdabjmmaaaPDx10
import Derived.Test.YtihefjdabjmmaaaSlotQ
namespace Go.Proofs.Ytihefjdabjmmaaa.Pure
open Go Go.RowKit Go.Proofs.Ytihefjdabjmmaaa Go.Proofs.Ytihefjdabjmmaaa.PD Go.Proofs.YtihefjdabjmmaaaW.PrintWords Go.Proofs.YtihefjdabjmmaaaW.PrintLast Go.Proofs.YtihefjdabjmmaaaW.PrintMore
theorem once_l0 {v data : List Int} {kind index cell stripe : Int} (hb : v.length ≤ 1000) (hv : ∀ x ∈ v, 1 ≤ x ∧ x ≤ stripe) (hs : stripe ≤ 1073741824) : ∀ (e k i : Nat) (flag : Bool), i + e = v.length → e < k → (flag = true ∨ stripe ∈ v.drop i) →
    twoslotlaw10_SlotOnce.l0 k flag (i : Int) kind index cell stripe v data = some true
  | 0, k, i, flag, h, hk, hf => by
    obtain ⟨k, rfl⟩ : ∃ m, k = m + 1 := ⟨k - 1, by omega⟩
    have : flag = true := by
      rcases hf with h1 | h1
      · exact h1
      · rw [List.drop_of_length_le (by omega)] at h1; cases h1
    subst this
    simp only [twoslotlaw10_SlotOnce.l0]
    rw [if_neg (by omega), if_pos trivial, decide_eq_true hs]
  | e + 1, k, i, flag, h, hk, hf => by
    obtain ⟨k, rfl⟩ : ∃ m, k = m + 1 := ⟨k - 1, by omega⟩
    have hx := hv v[i] (List.getElem_mem (by omega))
    rw [List.drop_eq_getElem_cons (show i < v.length by omega)] at hf
    simp only [twoslotlaw10_SlotOnce.l0]
    rw [if_pos (by omega), if_pos (by omega), rd_at (by omega), if_neg (by omega), if_neg (by omega), w64s (by omega)]
    cases flag with
    | true => rw [if_pos rfl]; exact once_l0 hb hv hs e k (i + 1) true (by omega) (by omega) (.inl rfl)
    | false =>
      rw [if_neg (by decide)]
      refine once_l0 hb hv hs e k (i + 1) _ (by omega) (by omega) ?_
      rcases hf with h1 | h1
      · cases h1
      · rcases List.mem_cons.1 h1 with h2 | h2
        · exact .inl (beq_iff_eq.2 h2.symm)
        · exact .inr h2
theorem SlotOnce : twoslotlaw10_SlotOnce.Pure := by
  intro a b c d l _ _ _ _ hl
  have hB : isB l := isB_wf hl.2.2
  obtain ⟨m, hm⟩ : ∃ k, 500 ≤ k := ⟨500, Nat.le_refl _⟩
  refine ⟨m + 1 + 1, ?_⟩
  unfold twoslotlaw10_SlotOnce.f
  rw [awake_f (by omega)]
  simp only [Option.bind_some, if_true]
  rw [parse_f (by omega) a b c d hB]
  simp only [Option.bind_some]
  have hz : twoslotlaw10_SlotOnce.j0 (m + 1 + 1) l false true a b c d 0 0 0 0 [] [] = some true := by
    simp only [twoslotlaw10_SlotOnce.j0, if_true]
    rw [alike_f (by simp; omega) (by simp) (by simp)]
    rfl
  rcases prs_cases (a := a) (b := b) (c := c) (d := d) hB with ⟨e, h⟩ | ⟨kind, index, cell, stripe, v, data, h, hp, hmay, hsb⟩
  · rw [h]
    simp only []
    by_cases he : e = 0
    · rw [if_pos he]; exact hz
    · rw [if_neg he]; exact hz
  · rw [h]
    simp only [if_true, Bool.not_true]
    obtain ⟨hv, hst, hc, hs1, hs2⟩ := may_all hmay
    have hi1 := hmay.2.2.1
    have hi2 := hmay.2.2.2.1
    have hcell := hmay.2.2.2.2.2.1
    have hsh := short hmay.1
    simp only [twoslotlaw10_SlotOnce.j0, Bool.false_eq_true, if_false]
    rw [bytes_f (by omega), if_pos hp, if_pos hmay]
    simp only [Option.bind_some, if_true]
    rw [hsb, if_pos rfl, if_neg (by omega), if_neg (by omega), if_pos hi1, if_pos hi2, ← hcell, bne_self_eq_false]
    simp only [twoslotlaw10_SlotOnce.j1, Bool.false_eq_true, if_false]
    exact once_l0 (by omega) (fun x hx => ⟨(hv x hx).1, (hv x hx).2.1⟩) hs2 v.length m 0 false (by omega) (by omega) (.inr hst)
end Go.Proofs.Ytihefjdabjmmaaa.Pure
