/- CodecCells, in plain Lean: what the program tells is what the document says, for every input. No condition. -/
import Derived.Test.YthhncoogmncdkaaCAlive
import Derived.Test.YthhncoogmncdkaaPCx32
import Derived.Test.YthhncoogmncdkaaCRefS
import Derived.Test.YthhncoogmncdkaaCSol
namespace Go.Proofs.Ythhncoogmncdkaa.Pure
open Go Go.RowKit Go.TwoGf Go.TwoLin Go.Proofs.Ythhncoogmncdkaa Go.Proofs.Ythhncoogmncdkaa.PC Go.Proofs.YthhncoogmncdkaaW.PrintWords Go.Proofs.YthhncoogmncdkaaW.PrintLast Go.Proofs.YthhncoogmncdkaaW.PrintMore
set_option linter.unusedVariables false
theorem spoil_v {p : List (List Int)} (h : p = [] ∨ ∃ n, Alk n p ∧ p.length ≤ 16) : twoslotlaw04_spoil.f p = some () := by
  unfold twoslotlaw04_spoil.f
  rw [if_pos]
  rcases h with h | ⟨n, h, h2⟩
  · exact .inl h
  · by_cases h0 : p.length = 0
    · exact .inl (List.length_eq_zero_iff.1 h0)
    · have hr := h _ (rw_mem (M := p) (i := 0) (by omega))
      exact .inr ⟨by omega, by omega, by omega, by omega, fun r hr' => by rw [(h r hr').2.2, hr.2.2]⟩
theorem cells_ok {K : Nat} (hK : 70000 ≤ K) {a b c : Int} {l : List (List Int)} (ha : in64 a) (hb : in64 b) (hc : in64 c) (hl : ∀ y ∈ l, y.length ≤ 140737488351232) (hB : isM l) : twoslotlaw04_CodecCells.ok K a b c l := by
  refine ⟨alive_f (by omega), ?_⟩
  rcases much_f (K := K) (by omega) l with h1 | ⟨h1, h60⟩
  · exact ⟨true, h1, fun z => by cases z⟩
  refine ⟨false, h1, fun _ => ?_⟩
  obtain ⟨p, e2, p1, p2, p3, p4⟩ := enc_both (K := K) (by omega) (a := a) (b := b) hB
  obtain ⟨d, e3, d1, d2, d3, d4⟩ := dec_both (K := K) hK (a := a) (b := b) hB
  obtain ⟨v, e4, v1, v2⟩ := ver_both (K := K) hK (a := a) (b := b) hB
  have p5 : p.length ≤ 16 := by
    rcases p3 with rfl | ⟨n, _, h⟩
    · simp
    · omega
  have d5 : d.length ≤ 16 := by
    rcases d3 with rfl | ⟨n, _, h⟩
    · simp
    · exact h
  refine ⟨(if okK a b ∧ 0 ≤ c ∧ c < a + b then (rw_ (codec_Row.M a.toNat b.toNat) c.toNat, 0) else ([], 2)).1, (if okK a b ∧ 0 ≤ c ∧ c < a + b then (rw_ (codec_Row.M a.toNat b.toNat) c.toNat, (0 : Int)) else ([], 2)).2, p, e2, d, e3, v, e4, twin_f (by omega) hl (by omega), row_all ha hb hc, p1, d1, v1, rrow_all (by omega), p2, d2, v2, sameAll_f (by omega) (by omega), sameAll_f (by omega) (by omega), spoil_v ?_, spoil_v d3, ?_, sameAll_f (by omega) (by omega)⟩
  · rcases p3 with h | ⟨n, h, h2⟩
    · exact .inl h
    · exact .inr ⟨n, h, by omega⟩
  · by_cases h : okK a b ∧ 0 ≤ c ∧ c < a + b
    · rw [if_pos h]
      have hr := rect_row (allM_rect a.toNat b.toNat) (i := c.toNat) (by obtain ⟨⟨q1, q2, q3, q4⟩, q5, q6⟩ := h; omega)
      show (rw_ (codec_Row.M a.toNat b.toNat) c.toNat).length ≤ 70000
      rw [hr]
      obtain ⟨⟨q1, q2, q3, q4⟩, q5, q6⟩ := h
      omega
    · rw [if_neg h]; simp
theorem CodecCells : ∀ (a0 : Int) (a1 : Int) (a2 : Int) (l3 : List (List Int)), (Lit.int .i64 a0).wf = true → (Lit.int .i64 a1).wf = true → (Lit.int .i64 a2).wf = true → (l3.length ≤ maxLen ∧ l3.length * 24 ≤ 140737488351232 ∧ ∀ y0 ∈ l3, (y0.length ≤ maxLen ∧ y0.length * 1 ≤ 140737488351232 ∧ ∀ y1 ∈ y0, (Lit.int .u8 y1).wf = true)) → ∃ k, twoslotlaw04_CodecCells.ok k a0 a1 a2 l3 := fun a0 a1 a2 l3 h0 h1 h2 hl => by
  obtain ⟨k0, hk0⟩ : ∃ k0, 70000 ≤ k0 := ⟨70000, Nat.le_refl _⟩
  exact ⟨k0, cells_ok hk0 h0 h1 h2 (fun y hy => by have := (hl.2.2 y hy).2.1; omega) (fun r hr => isB_wf ((hl.2.2 r hr).2.2))⟩
end Go.Proofs.Ythhncoogmncdkaa.Pure
