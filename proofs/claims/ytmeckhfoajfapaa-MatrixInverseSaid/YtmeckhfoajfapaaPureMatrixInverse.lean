/- MatrixInverse, in plain Lean: an inverse is one on both sides, and there is one just if all rows are independent, for every input. No condition. -/
import Derived.Test.YtmeckhfoajfapaaPAx16
import Derived.Test.YtmeckhfoajfapaaMxFun
namespace Go.Proofs.Ytmeckhfoajfapaa.Pure
open Go Go.RowKit Go.TwoGf Go.TwoLin Go.Proofs.Ytmeckhfoajfapaa Go.Proofs.Ytmeckhfoajfapaa.PA Go.Proofs.YtmeckhfoajfapaaW.PrintWords Go.Proofs.YtmeckhfoajfapaaW.PrintLast
set_option linter.unusedVariables false
theorem inverse_law {k : Nat} (hk : 1100 ≤ k) {a : List (List Int)} (ha : isM a) : twoslotlaw03_MatrixInverse.f k a = some true := by
  unfold twoslotlaw03_MatrixInverse.f
  rw [alive_f (by omega), Option.bind_some, if_pos rfl]
  rcases much_f (k := k) (by omega) a with hm | ⟨hm, hlen⟩
  · rw [hm, Option.bind_some, if_pos rfl]
  rw [hm, Option.bind_some, if_neg (by decide)]
  by_cases ga : good a
  case neg =>
    rw [inverse_bad (by omega) (fun z => ga z.1), Option.bind_some, rank_bad (by omega) ga, Option.bind_some]
    dsimp only
    rw [if_neg (by decide), if_pos rfl, if_pos rfl]
    rfl
  obtain ⟨r, hr, hrk⟩ := rank_f (k := k) (by omega) ha ga
  by_cases hs : a.length = (rw_ a 0).length
  case neg =>
    rw [inverse_bad (by omega) (fun z => hs z.2), Option.bind_some, hr, Option.bind_some]
    dsimp only
    rw [if_pos rfl, if_pos (by have := ga.1; omega), if_neg (show ¬ (a.length : Int) = ((rd_L1 a 0).length : Int) by rw [rdL0]; omega), if_pos rfl]
    rfl
  rw [← hs] at hrk
  rcases inverse_f (k := k) (by omega) ha ga hs with ⟨r', h1, h2, h3⟩ | ⟨V, h1, h2, h3, h4, h5, h6⟩
  · rw [h3, Option.bind_some, hr, Option.bind_some]
    dsimp only
    have := Rk_unique hrk h2
    rw [if_pos rfl, if_pos (by have := ga.1; omega), if_pos (show (a.length : Int) = ((rd_L1 a 0).length : Int) by rw [rdL0]; omega), if_neg (by decide), if_pos rfl, if_pos (by omega)]
    rfl
  · obtain rfl := Rk_unique hrk h4
    have h32 := ga.2.1
    have h01 := ga.1
    obtain ⟨gV, lV, cV⟩ := good_of h2 h01 h32 h01 h32
    have e1 : mkF a.length (rw_ V 0).length (mm V.length (cell a) (cell V)) = mkF a.length a.length dl := by
      rw [cV, lV]; exact mkF_congr h6
    have e2 : mkF V.length (rw_ a 0).length (mm a.length (cell V) (cell a)) = mkF a.length a.length dl := by
      rw [← hs, lV]; exact mkF_congr h5
    have e3 : matrix_Inverse.f k V = some (a, 0) := by
      rcases inverse_f (k := k) (by omega) h3 gV (by rw [lV, cV]) with ⟨r', q1, q2, q3⟩ | ⟨W, q1, q2, q3, q4, q5, q6⟩
      · rw [lV] at q1 q2
        have := Rk_unique q2 (Rk_inv h6)
        omega
      · rw [lV] at q2 q5 q6
        rw [q1]
        rw [ext_cell q2 (by have := good_rect ga; rwa [← hs] at this) q3 ha (inv_unique q5 h5)]
    rw [h1, Option.bind_some, hr, Option.bind_some]
    dsimp only
    rw [if_pos rfl, if_pos (by omega), if_pos (show (a.length : Int) = ((rd_L1 a 0).length : Int) by rw [rdL0]; omega), if_pos rfl, mul_fn (by omega) ha h3 ga gV (by rw [← hs, lV]), Option.bind_some, mul_fn (by omega) h3 ha gV ga cV, Option.bind_some, one_f h01 h32, Option.bind_some, e3, Option.bind_some]
    dsimp only
    rw [if_pos rfl, if_pos rfl, if_pos rfl, if_pos rfl, if_pos rfl, e1, e2, same_f (by rw [(rect_mkF _ _ _).1]; omega) (by rw [(rect_mkF _ _ _).1]; omega) rfl, Option.bind_some, if_pos rfl, Option.bind_some, if_pos rfl, same_f (by omega) (by omega) rfl]
    rfl
theorem MatrixInverse : twoslotlaw03_MatrixInverse.Pure := fun l0 h => by
  obtain ⟨k, hk⟩ : ∃ k, 1100 ≤ k := ⟨1100, Nat.le_refl _⟩
  exact ⟨k, inverse_law hk fun r hr => isB_wf (h.2.2 r hr).2.2⟩
end Go.Proofs.Ytmeckhfoajfapaa.Pure
