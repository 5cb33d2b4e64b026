/- The power by a sum is the product of the powers, and logarithms undo powers. No condition. -/
import Derived.Test.YtljcenlecofbdaaPAx4
import Derived.Test.YtljcenlecofbdaaGfS
namespace Go.Proofs.Ytljcenlecofbdaa.Pure
open Go Go.RowKit Go.TwoGf Go.Proofs.Ytljcenlecofbdaa.PA Go.Proofs.YtljcenlecofbdaaW.PrintWords Go.Proofs.YtljcenlecofbdaaW.PrintLast
theorem gfLogs_j2 (k a : Nat) (n m : Int) (hk : 10 ≤ k) (ha : a < 256) (hn : -1099511627776 ≤ n ∧ n ≤ 1099511627776) (hm : -1099511627776 ≤ m ∧ m ≤ 1099511627776) : twoslotlaw01_GfLogs.j2 k (a : Int) n m false = some true := by
  obtain ⟨k, rfl⟩ : ∃ j, k = j + 1 := ⟨k - 1, by omega⟩
  simp only [twoslotlaw01_GfLogs.j2]
  rw [if_neg (by decide), show wrap64 (n + m) = n + m by unfold wrap64; omega, pow_f a n ha, pow_f a m ha, pow_f a (n + m) ha]
  simp only [Option.bind_some]
  by_cases h0 : a = 0
  · subst h0
    by_cases h1 : n < 0
    · have e : gpe 0 n = 10 := by unfold gpe; rw [if_pos ⟨rfl, h1⟩]
      rw [e, if_neg (by decide), if_pos (show ((0 : Nat) : Int) = 0 from rfl), if_pos h1]
    · have e : gpe 0 n = 0 := by unfold gpe; rw [if_neg (by omega)]
      rw [e, if_pos rfl]
      by_cases h2 : m < 0
      · have e : gpe 0 m = 10 := by unfold gpe; rw [if_pos ⟨rfl, h2⟩]
        rw [e, if_neg (by decide), if_pos (show ((0 : Nat) : Int) = 0 from rfl), if_neg h1, decide_eq_true h2]
      · have e : gpe 0 m = 0 := by unfold gpe; rw [if_neg (by omega)]
        have e3 : gpe 0 (n + m) = 0 := by unfold gpe; rw [if_neg (by omega)]
        rw [e, if_pos rfl, e3, if_pos rfl, mul_f k _ _ (by omega) (gp_lt _ _) (gp_lt _ _)]
        simp only [Option.bind_some]
        have : gp 0 (n + m) = gm (gp 0 n) (gp 0 m) := by
          unfold gp
          by_cases hn0 : n = 0
          · subst hn0
            by_cases hm0 : m = 0
            · subst hm0; decide +kernel
            · rw [if_neg (by omega), if_pos rfl, if_pos rfl, if_neg hm0, if_pos rfl, gm_zero]
          · rw [if_neg (by omega), if_pos rfl, if_neg hn0, if_pos rfl, zero_gm]
        rw [this, beq_self_eq_true]
  · have e1 : gpe a n = 0 := by unfold gpe; rw [if_neg (by omega)]
    have e2 : gpe a m = 0 := by unfold gpe; rw [if_neg (by omega)]
    have e3 : gpe a (n + m) = 0 := by unfold gpe; rw [if_neg (by omega)]
    rw [e1, e2, e3, if_pos rfl, if_pos rfl, if_pos rfl, mul_f k _ _ (by omega) (gp_lt _ _) (gp_lt _ _)]
    simp only [Option.bind_some]
    rw [gp_ne a n h0, gp_ne a m h0, gp_ne a (n + m) h0, gm_E_E, Int.mul_add, beq_self_eq_true]
theorem gfLogs_j1 (k a : Nat) (n m : Int) (hk : 11 ≤ k) (ha : a < 256) (hn : -1099511627776 ≤ n ∧ n ≤ 1099511627776) (hm : -1099511627776 ≤ m ∧ m ≤ 1099511627776) : twoslotlaw01_GfLogs.j1 k (a : Int) n m false = some true := by
  obtain ⟨k, rfl⟩ : ∃ j, k = j + 1 := ⟨k - 1, by omega⟩
  have hb : (n % 255).toNat < 255 := by omega
  have hp := E_pos hb
  simp only [twoslotlaw01_GfLogs.j1]
  rw [if_neg (by decide), exp_f n]
  simp only [Option.bind_some]
  rw [log_f _ (E_lt _), if_neg hp, L_E hb]
  simp only [Option.bind_some, if_true]
  rw [if_neg (by omega), if_neg (by omega), exp_f]
  simp only [Option.bind_some]
  rw [show (((n % 255).toNat : Nat) : Int) % 255 = n % 255 by omega, if_pos rfl]
  by_cases h1 : n ≥ 0
  · rw [if_pos h1]
    by_cases h2 : n < 255
    · rw [if_pos h2, show ((((n % 255).toNat : Nat) : Int) != n) = false by rw [bne_eq_false_iff_eq]; omega]
      exact gfLogs_j2 k a n m (by omega) ha hn hm
    · rw [if_neg h2]; exact gfLogs_j2 k a n m (by omega) ha hn hm
  · rw [if_neg h1]; exact gfLogs_j2 k a n m (by omega) ha hn hm
theorem gfLogs_j0 (k a : Nat) (n m : Int) (hk : 12 ≤ k) (ha : a < 256) (hn : -1099511627776 ≤ n ∧ n ≤ 1099511627776) (hm : -1099511627776 ≤ m ∧ m ≤ 1099511627776) : twoslotlaw01_GfLogs.j0 k (a : Int) n m false = some true := by
  obtain ⟨k, rfl⟩ : ∃ j, k = j + 1 := ⟨k - 1, by omega⟩
  simp only [twoslotlaw01_GfLogs.j0]
  rw [if_neg (by decide), show wrap64 (n + m) = n + m by unfold wrap64; omega, show wrap64 (n + 255) = n + 255 by unfold wrap64; omega, exp_f, exp_f, exp_f]
  simp only [Option.bind_some]
  rw [mul_f k _ _ (by omega) (E_lt _) (E_lt _)]
  simp only [Option.bind_some]
  rw [gm_E_E, if_pos rfl, exp_f]
  simp only [Option.bind_some]
  rw [show (n + 255) % 255 = n % 255 by omega, bne_self_eq_false]
  exact gfLogs_j1 k a n m (by omega) ha hn hm
theorem gfLogs_true (k a : Nat) (n m : Int) (hk : 1 ≤ k) : twoslotlaw01_GfLogs.j0 k (a : Int) n m true = some true := by
  obtain ⟨k, rfl⟩ : ∃ j, k = j + 1 := ⟨k - 1, by omega⟩
  simp only [twoslotlaw01_GfLogs.j0, if_true]
theorem GfLogs : twoslotlaw01_GfLogs.Pure := by
  intro a0 n m wa _ _
  obtain ⟨a, ha, rfl⟩ := byte_of wa
  refine ⟨400, ?_⟩
  unfold twoslotlaw01_GfLogs.f
  rw [alive_f 400 (by decide)]
  simp only [Option.bind_some, if_true]
  by_cases h1 : n > 1099511627776
  · rw [if_pos h1]; exact gfLogs_true _ a n m (by decide)
  rw [if_neg h1]
  by_cases h2 : n < -1099511627776
  · rw [if_pos h2]; exact gfLogs_true _ a n m (by decide)
  rw [if_neg h2]
  by_cases h3 : m > 1099511627776
  · rw [if_pos h3]; exact gfLogs_true _ a n m (by decide)
  rw [if_neg h3]
  by_cases h4 : m < -1099511627776
  · rw [decide_eq_true h4]; exact gfLogs_true _ a n m (by decide)
  rw [decide_eq_false h4]
  exact gfLogs_j0 400 a n m (by decide) ha ⟨by omega, by omega⟩ ⟨by omega, by omega⟩
end Go.Proofs.Ytljcenlecofbdaa.Pure
