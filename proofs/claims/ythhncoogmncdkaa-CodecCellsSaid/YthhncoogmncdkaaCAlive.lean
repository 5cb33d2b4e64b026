/- alive and much of layer 4, in plain Lean. No condition. -/
import Derived.Test.YthhncoogmncdkaaPCx32
import Derived.Test.YthhncoogmncdkaaPCx0
import Derived.Test.YthhncoogmncdkaaMxSpo
import Derived.Test.YthhncoogmncdkaaPCx13
import Derived.Test.YthhncoogmncdkaaDEnc
import Derived.Test.YthhncoogmncdkaaCRefS
import Derived.Test.YthhncoogmncdkaaCSol
import Derived.Test.YthhncoogmncdkaaLin
namespace Go.Proofs.Ythhncoogmncdkaa.Pure
open Go Go.RowKit Go.TwoGf Go.TwoLin Go.Proofs.Ythhncoogmncdkaa Go.Proofs.Ythhncoogmncdkaa.PC Go.Proofs.YthhncoogmncdkaaW.PrintWords Go.Proofs.YthhncoogmncdkaaW.PrintLast Go.Proofs.YthhncoogmncdkaaW.PrintMore
set_option linter.unusedVariables false
theorem M21 : codec_Row.M 2 1 = [[1, 0], [0, 1], [142, 244]] := by
  have h0 : matrix_Cauchy.G ((2 : Nat) : Int) 0 0 = 142 := by rw [G_gi (by decide) (by decide) (by decide)]; decide +kernel
  have h1 : matrix_Cauchy.G ((2 : Nat) : Int) 0 1 = 244 := by rw [G_gi (by decide) (by decide) (by decide)]; decide +kernel
  show _ :: _ :: [[matrix_Cauchy.G ((2 : Nat) : Int) 0 0, matrix_Cauchy.G ((2 : Nat) : Int) 0 1]] = _
  rw [h0, h1]; rfl
instance isMDec (M : List (List Int)) : Decidable (isM M) := by unfold isM; infer_instance
theorem alive_ok {K : Nat} (hK : 400 ≤ K) : twoslotlaw04_alive.ok K := by
  have b2 : ∀ {x y : Int}, 0 ≤ x ∧ x < 256 → 0 ≤ y ∧ y < 256 → ∀ b ∈ [[x], [y]], isB b := fun hx hy b hb => by
    simp only [List.mem_cons, List.not_mem_nil, or_false] at hb
    rcases hb with rfl | rfl <;> (intro z hz; rw [List.mem_singleton.1 hz]; assumption)
  have c2 : ((2 : Int)) = ((2 : Nat) : Int) := rfl
  have c1 : ((1 : Int)) = ((1 : Nat) : Int) := rfl
  have hD : Dec 2 1 1 [[], [7], [9]] := ⟨by decide, by decide, by decide, rfl, by decide, by decide, by decide, by decide, by decide⟩
  refine ⟨?_, ?_, ?_, ?_, ?_, ?_⟩
  · rw [row_f (by decide) (by decide) (by decide) (by decide) (by decide) (by decide)]
    have h0 : matrix_Cauchy.G ((2 : Nat) : Int) 0 0 = 142 := by rw [G_gi (by decide) (by decide) (by decide)]; decide +kernel
    have h1 : matrix_Cauchy.G ((2 : Nat) : Int) 0 1 = 244 := by rw [G_gi (by decide) (by decide) (by decide)]; decide +kernel
    show some ([matrix_Cauchy.G ((2 : Nat) : Int) 0 0, matrix_Cauchy.G ((2 : Nat) : Int) 0 1], (0 : Int)) = _
    rw [h0, h1]
  · rw [enc_ok (by omega) (k := 2) (r := 1) (data := [[1], [0]]) (n := 1) (by decide) rfl (by decide) (b2 (by decide) (by decide))]
    rw [show ((2 : Int).toNat) = 2 from rfl, show ((1 : Int).toNat) = 1 from rfl, M21]
    decide +kernel
  · obtain ⟨data, d1, d2, d3, d4, d5⟩ := dec_ok (K := K) (by omega) hD
    have e : data = [[227], [7]] := d5 _ (b2 (by decide) (by decide)) ⟨rfl, by decide⟩ (by
      rw [M21]
      have key : ∀ x ∈ tk 2 [[], [7], [9]], rw_ (coded 1 [[1, 0], [0, 1], [142, 244]] [[227], [7]]) x.toNat = rw_ [[], [7], [9]] x.toNat := by decide +kernel
      intro x hx
      exact key _ hx)
    rw [show (2 : Int) = ((2 : Nat) : Int) from rfl, show (1 : Int) = ((1 : Nat) : Int) from rfl] at *
    rw [d3, e, M21]
    decide +kernel
  · rcases dec_any (K := K) (by omega) (a := 2) (b := 1) (cells := [[], [], [9]]) (by decide) with ⟨h1, _⟩ | ⟨_, h1, _⟩ | ⟨_, _, _, _, h1⟩ | ⟨k, r, n, h1, h2, h3⟩
    · exact absurd (by decide) h1
    · exact absurd (by decide) h1
    · exact h1
    · have := h3.cnt
      have e : (posI [[], [], [(9 : Int)]] 0).length = 1 := by decide
      omega
  · unfold codec_Encode.f
    rw [if_neg (by decide), if_pos (row_inv (by decide) (by decide) (by decide)), there_f (by omega) (by decide), if_pos (by decide)]
    simp only [Option.bind_some]
    rw [if_neg (by decide), if_pos (by decide)]
  · have := ver_ok (K := K) (by omega) (k := 2) (r := 1) (n := 1) (cells := [[227], [7], [9]]) (by decide) (by decide) (by decide) (by decide) (by decide) ⟨rfl, by decide⟩ (by decide)
    rw [show ((2 : Int)) = ((2 : Nat) : Int) from rfl, show ((1 : Int)) = ((1 : Nat) : Int) from rfl, this, M21]
    decide +kernel
theorem alive_f {K : Nat} (hK : 400 ≤ K) : twoslotlaw04_alive.f K = some true := by
  unfold twoslotlaw04_alive.f
  rw [if_pos (alive_ok hK)]
theorem much_l0 (l : List (List Int)) (hl : l.length ≤ 60) : ∀ (d k i : Nat), i + d = l.length → d < k → ∃ b, twoslotlaw04_much.l0 k l (i : Int) = some b
  | 0, k, i, hi, hk => by
    obtain ⟨k, rfl⟩ : ∃ m, k = m + 1 := ⟨k - 1, by omega⟩
    exact ⟨false, by simp only [twoslotlaw04_much.l0]; rw [if_neg (by omega)]⟩
  | d + 1, k, i, hi, hk => by
    obtain ⟨k, rfl⟩ : ∃ m, k = m + 1 := ⟨k - 1, by omega⟩
    obtain ⟨b, hb⟩ := much_l0 l hl d k (i + 1) (by omega) (by omega)
    rw [show ((i + 1 : Nat) : Int) = (i : Int) + 1 by omega] at hb
    simp only [twoslotlaw04_much.l0]
    rw [if_pos (by omega), if_pos (by omega), wrap_s (by omega) (by omega), hb]
    by_cases h1 : ((rd_L1 l i).length : Int) > 3000
    · rw [if_pos h1]
      by_cases h2 : ((rd_L1 l i).length : Int) ≤ 65536
      · rw [if_pos h2]; exact ⟨_, rfl⟩
      · rw [if_neg h2]
        by_cases h3 : ((rd_L1 l i).length : Int) > 70000
        · rw [if_pos h3]; exact ⟨_, rfl⟩
        · rw [if_neg h3]; exact ⟨_, rfl⟩
    · rw [if_neg h1]
      by_cases h3 : ((rd_L1 l i).length : Int) > 70000
      · rw [if_pos h3]; exact ⟨_, rfl⟩
      · rw [if_neg h3]; exact ⟨_, rfl⟩
theorem much_f {K : Nat} (hK : 62 ≤ K) (l : List (List Int)) : twoslotlaw04_much.f K l = some true ∨ (twoslotlaw04_much.f K l = some false ∧ l.length ≤ 60) := by
  unfold twoslotlaw04_much.f
  by_cases h : (l.length : Int) > 60
  · rw [if_pos h]; exact .inl rfl
  · rw [if_neg h]
    obtain ⟨b, hb⟩ := much_l0 l (by omega) l.length K 0 (by omega) (by omega)
    rw [show ((0 : Nat) : Int) = 0 from rfl] at hb
    rw [hb]
    cases b
    · exact .inr ⟨rfl, by omega⟩
    · exact .inl rfl
end Go.Proofs.Ythhncoogmncdkaa.Pure
