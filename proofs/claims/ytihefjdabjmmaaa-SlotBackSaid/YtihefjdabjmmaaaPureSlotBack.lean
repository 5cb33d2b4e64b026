/- A slot that is written is read as the same slot. -/
import Derived.Test.YtihefjdabjmmaaaPDx9
import Derived.Test.YtihefjdabjmmaaaSlotQ
namespace Go.Proofs.Ytihefjdabjmmaaa.Pure
open Go Go.RowKit Go.Proofs.Ytihefjdabjmmaaa Go.Proofs.Ytihefjdabjmmaaa.PD Go.Proofs.YtihefjdabjmmaaaW.PrintWords Go.Proofs.YtihefjdabjmmaaaW.PrintLast Go.Proofs.YtihefjdabjmmaaaW.PrintMore
theorem sb_isB {a b c d kind index cell stripe : Int} {v data : List Int} (h : sMay a b c d kind index cell stripe v data) (hd : isB data) : isB (sb kind index cell stripe v data) := by
  have hk := h.2.2.2.2.1
  rw [sb_cons]
  intro x hx
  simp only [List.mem_cons] at hx
  rcases hx with hx | hx | hx | hx | hx
  · omega
  · omega
  · omega
  · omega
  · exact isB_append (be4_isB _) (isB_append (be4_isB _) (isB_append (vb_isB v) hd)) x hx
theorem prs_sb' {a b c d kind index cell stripe : Int} {v data : List Int} (hp : pOk a b c d) (h : sMay a b c d kind index cell stripe v data) : prs a b c d (sb kind index cell stripe v data) = (kind, index, cell, stripe, v, data, true, 0) := by
  obtain ⟨hv, hst, hc, hs1, hs2⟩ := may_all h
  exact prs_sb hp h (fun x hx => by have := hv x hx; omega) (by omega) (by omega)
theorem SlotBack : twoslotlaw10_SlotBack.Pure := by
  intro a b c d kind index cell stripe v data kind' index' cell' stripe' v' data' _ _ _ _ _ _ _ _ hv hd _ _ _ _ hv' hd'
  have hB : isB data := isB_wf hd.2.2
  have hB' : isB data' := isB_wf hd'.2.2
  obtain ⟨hv1, hv2, _⟩ := hv
  obtain ⟨hd1, hd2, _⟩ := hd
  obtain ⟨m, hm⟩ : ∃ k, 500 + v.length + data.length ≤ k := ⟨_, Nat.le_refl _⟩
  refine ⟨m + 1 + 1, ?_⟩
  unfold twoslotlaw10_SlotBack.f
  rw [awake_f (by omega)]
  simp only [Option.bind_some, if_true]
  rw [size_f (by omega), bytes_f (by omega), bytes_f (by omega)]
  simp only [Option.bind_some]
  have hz : ∀ q cs g, twoslotlaw10_SlotBack.j0 (m + 1 + 1) q [] cs g true a b c d kind index cell stripe v data kind' index' cell' stripe' v' data' = some true := fun q cs g => by
    simp only [twoslotlaw10_SlotBack.j0, if_true]; rfl
  by_cases hp : pOk a b c d
  case neg =>
    rw [if_neg hp, if_neg hp, if_neg hp]
    simp only []
    rw [if_neg (by decide)]
    exact hz _ _ _
  rw [if_pos hp, if_pos hp, if_pos hp]
  simp only [if_true]
  by_cases hs : sMay a b c d kind index cell stripe v data
  case neg =>
    rw [if_neg hs]
    simp only [show ((100 : Int) != 0) = true from rfl]
    exact hz _ _ _
  rw [if_pos hs]
  simp only [bne_self_eq_false]
  simp only [twoslotlaw10_SlotBack.j0, Bool.false_eq_true, if_false]
  have hsB := sb_isB hs hB
  have hl := (chk_zero.1 hs.1).2.1
  have hdl := hs.2.2.2.2.2.2
  rw [parse_f (by omega) a b c d hsB, prs_sb' hp hs]
  simp only [Option.bind_some, if_true]
  rw [if_pos (by rw [sb_len]; omega), alike_f (by omega) (by omega) (by omega)]
  simp only [Option.bind_some, and_self, decide_true, Bool.not_true]
  simp only [twoslotlaw10_SlotBack.j1, Bool.false_eq_true, if_false]
  by_cases hs' : sMay a b c d kind' index' cell' stripe' v' data'
  case neg => rw [if_neg hs', if_neg (by decide)]
  rw [if_pos hs']
  simp only [if_true]
  rw [alike_f (by omega) (by omega) (by omega)]
  simp only [Option.bind_some]
  have hsB' := sb_isB hs' hB'
  by_cases e : kind = kind' ∧ index = index' ∧ cell = cell' ∧ stripe = stripe' ∧ v = v' ∧ data = data'
  · obtain ⟨rfl, rfl, rfl, rfl, rfl, rfl⟩ := e
    simp
  · rw [decide_eq_false e]
    have hne : ((strOfNums (sb kind index cell stripe v data)).toList == (strOfNums (sb kind' index' cell' stripe' v' data')).toList) = false := by
      rw [beq_eq_false_iff_ne]
      intro h
      have h1 := strOfNums_inj hsB hsB' h
      have h2 := prs_sb' hp hs
      rw [h1, prs_sb' hp hs'] at h2
      simp only [Prod.mk.injEq] at h2
      obtain ⟨r1, r2, r3, r4, r5, r6, _⟩ := h2
      exact e ⟨r1.symm, r2.symm, r3.symm, r4.symm, r5.symm, r6.symm⟩
    rw [hne]
    rfl
end Go.Proofs.Ytihefjdabjmmaaa.Pure
