/- Each of the 255 elements but 0 has one logarithm and one inverse; powers at the ends of numbers. A closed statement. -/
import Derived.Test.YtljcenlecofbdaaPAx2
import Derived.Test.YtljcenlecofbdaaGfS
namespace Go.Proofs.Ytljcenlecofbdaa.Pure
open Go Go.RowKit Go.TwoGf Go.Proofs.Ytljcenlecofbdaa.PA Go.Proofs.YtljcenlecofbdaaW.PrintWords Go.Proofs.YtljcenlecofbdaaW.PrintLast
theorem gfNames_end (k : Nat) (hk : 300 ≤ k) (x : List Bool) : twoslotlaw01_GfNames.l0 (k + 1) x 255 = some true := by
  have p1 : gf_Pow.f 3 9223372036854775807 = some ((gp 3 9223372036854775807 : Int), 0) := pow_f 3 9223372036854775807 (by decide)
  have p2 : gf_Pow.f 3 (-9223372036854775807 - 1) = some ((gp 3 (-9223372036854775807 - 1) : Int), 0) := pow_f 3 (-9223372036854775807 - 1) (by decide)
  have q1 : twoslotref01_Pow.f k 3 9223372036854775807 = some ((gp 3 9223372036854775807 : Int), 0) := rpow_f k 3 9223372036854775807 hk (by decide)
  have q2 : twoslotref01_Pow.f k 3 (-9223372036854775807 - 1) = some ((gp 3 (-9223372036854775807 - 1) : Int), 0) := rpow_f k 3 (-9223372036854775807 - 1) hk (by decide)
  simp only [twoslotlaw01_GfNames.l0]
  rw [if_neg (by omega), p1, p2, q1, q2]
  simp only [Option.bind_some, if_true, beq_self_eq_true]
theorem gfNames_l0 : ∀ (d k n : Nat) (x : List Bool), d + 301 ≤ k → n + d = 255 → x.length = 256 → (∀ i, n ≤ i → i < 255 → x.getD (E i) false = false) → twoslotlaw01_GfNames.l0 k x (n : Int) = some true
  | 0, k, n, x, hk, hn, _, _ => by
    obtain ⟨k, rfl⟩ : ∃ j, k = j + 1 := ⟨k - 1, by omega⟩
    obtain rfl : n = 255 := by omega
    exact gfNames_end k (by omega) x
  | d + 1, k, n, x, hk, hn, hl, hx => by
    obtain ⟨k, rfl⟩ : ∃ j, k = j + 1 := ⟨k - 1, by omega⟩
    have hp := E_pos (show n < 255 by omega)
    have hr : rdOf false x ((E n : Nat) : Int) = false := by
      have := hx n (by omega) (by omega)
      unfold rdOf
      rw [Int.toNat_natCast]; exact this
    simp only [twoslotlaw01_GfNames.l0]
    rw [if_pos (by omega), exp_f]
    simp only [Option.bind_some]
    rw [show ((n : Int) % 255).toNat = n by omega, log_f _ (E_lt n), inv_f _ (E_lt n), if_neg hp, L_E (by omega), if_neg hp]
    simp only [Option.bind_some]
    have := E_lt n
    rw [if_neg (by omega), if_pos (by omega), if_pos (by omega), hr, if_neg (by decide)]
    simp only [if_true]
    rw [mul_f k _ _ (by omega) (gi_lt _) (E_lt n)]
    simp only [Option.bind_some]
    rw [gm_comm, gm_gi (E_lt n) hp, if_pos (show ((1 : Nat) : Int) = 1 from rfl), show wrap64 ((n : Int) + 1) = ((n + 1 : Nat) : Int) by unfold wrap64; omega, Int.toNat_natCast]
    refine gfNames_l0 d k (n + 1) _ (by omega) (by omega) (by simpa using hl) (fun i h1 h2 => ?_)
    have hne : E n ≠ E i := by
      intro h
      have := congrArg L h
      rw [L_E (by omega), L_E h2] at this
      omega
    have := hx i (by omega) h2
    rw [List.getD_eq_getElem?_getD] at this ⊢
    rw [List.getElem?_set_ne hne]
    exact this
theorem GfNames : twoslotlaw01_GfNames.Pure := by
  obtain ⟨k, hk⟩ : ∃ k, 600 ≤ k := ⟨600, Nat.le_refl _⟩
  refine ⟨k, ?_⟩
  unfold twoslotlaw01_GfNames.f
  rw [alive_f k (by omega)]
  simp only [Option.bind_some, if_true]
  rw [if_pos (by decide)]
  refine gfNames_l0 255 k 0 _ (by omega) (by decide) List.length_replicate (fun i _ _ => ?_)
  rw [List.getD_eq_getElem?_getD, List.getElem?_replicate]
  split <;> rfl
end Go.Proofs.Ytljcenlecofbdaa.Pure
