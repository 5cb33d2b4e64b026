/- Powers and logarithms of the reference of layer 1; the four plain laws of gf that lean on them. No condition. -/
import Derived.Test.YtljcenlecofbdaaPAx2
import Derived.Test.YtljcenlecofbdaaPAx3
import Derived.Test.YtljcenlecofbdaaPAx4
import Derived.Test.YtljcenlecofbdaaGfR
namespace Go.Proofs.Ytljcenlecofbdaa.Pure
open Go Go.RowKit Go.TwoGf Go.Proofs.Ytljcenlecofbdaa.PA Go.Proofs.YtljcenlecofbdaaW.PrintWords Go.Proofs.YtljcenlecofbdaaW.PrintLast
theorem gm_E_E (n m : Int) : gm (E (n % 255).toNat) (E (m % 255).toNat) = E ((n + m) % 255).toNat := by
  have hn : (n % 255).toNat < 255 := by omega
  have hm : (m % 255).toNat < 255 := by omega
  have e1 := Nat.mod_eq_of_lt (E_lt (n % 255).toNat)
  have e2 := Nat.mod_eq_of_lt (E_lt (m % 255).toNat)
  rw [gm_nz (by rw [e1]; exact E_pos hn) (by rw [e2]; exact E_pos hm), e1, e2, L_E hn, L_E hm]
  congr 1
  omega
theorem gp_ne (a : Nat) (n : Int) (h0 : a ≠ 0) : gp a n = E (((L a : Int) * n) % 255).toNat := by
  unfold gp
  by_cases hn : n = 0
  · subst hn; simp [E_zero]
  · rw [if_neg hn, if_neg h0]
theorem rpow_l0 (a : Nat) (ha : a < 256) (h0 : a ≠ 0) (m : Nat) (hm : m < 255) : ∀ (d k i : Nat), d + 17 < k → i + d = m → twoslotref01_Pow.l0 k (a : Int) (m : Int) (E ((L a * i) % 255) : Int) (i : Int) = some ((E ((L a * m) % 255) : Int), 0)
  | 0, k, i, hk, hi => by
    obtain ⟨k, rfl⟩ : ∃ m, k = m + 1 := ⟨k - 1, by omega⟩
    obtain rfl : i = m := by omega
    simp only [twoslotref01_Pow.l0]
    rw [if_neg (by omega)]
  | d + 1, k, i, hk, hi => by
    obtain ⟨k, rfl⟩ : ∃ m, k = m + 1 := ⟨k - 1, by omega⟩
    simp only [twoslotref01_Pow.l0]
    rw [if_pos (by omega), rmul_f k _ a (by omega) (E_lt _) ha]
    simp only [Option.bind_some]
    have hl := L_lt ha h0
    have e : gm (E ((L a * i) % 255)) a = E ((L a * (i + 1)) % 255) := by
      have h1 : (L a * i) % 255 < 255 := Nat.mod_lt _ (by decide)
      have e1 := Nat.mod_eq_of_lt (E_lt ((L a * i) % 255))
      rw [gm_nz (by rw [e1]; exact E_pos h1) (by rw [Nat.mod_eq_of_lt ha]; exact h0), e1, L_E h1, Nat.mod_eq_of_lt ha]
      congr 1
      rw [Nat.mul_add, Nat.mul_one, Nat.mod_add_mod]
    rw [e, show wrap64 ((i : Int) + 1) = ((i + 1 : Nat) : Int) by unfold wrap64; omega]
    exact rpow_l0 a ha h0 m hm d k (i + 1) (by omega) (by omega)
theorem rpow_f (k a : Nat) (n : Int) (hk : 300 ≤ k) (ha : a < 256) : twoslotref01_Pow.f k (a : Int) n = some ((gp a n : Int), gpe a n) := by
  unfold twoslotref01_Pow.f
  by_cases h0 : a = 0
  · subst h0
    rw [if_pos (show ((0 : Nat) : Int) = 0 from rfl)]
    unfold gp gpe
    by_cases h1 : n < 0
    · rw [if_pos h1, if_neg (by omega)]; simp [h1]
    · rw [if_neg h1]
      by_cases h2 : n > 0
      · rw [if_pos h2, if_neg (by omega)]; simp [h1]
      · rw [if_neg h2]
        obtain rfl : n = 0 := by omega
        rfl
  · rw [if_neg (by omega)]
    have key : ∀ m : Nat, m < 255 → ((m : Int) - n) % 255 = 0 → twoslotref01_Pow.j0 k (a : Int) (m : Int) = some ((gp a n : Int), gpe a n) := by
      intro m hm hmn
      obtain ⟨k, rfl⟩ : ∃ j, k = j + 1 := ⟨k - 1, by omega⟩
      simp only [twoslotref01_Pow.j0]
      have := rpow_l0 a ha h0 m hm m k 0 (by omega) (by omega)
      rw [Nat.mul_zero, Nat.zero_mod, E_zero] at this
      rw [show (1 : Int) = ((1 : Nat) : Int) from rfl, show (0 : Int) = ((0 : Nat) : Int) from rfl, this, gp_ne a n h0]
      unfold gpe
      rw [if_neg (by omega)]
      congr 4
      have e : ((L a : Int) * n) % 255 = ((L a * m : Nat) : Int) % 255 := by
        have : (((L a * m : Nat) : Int) - (L a : Int) * n) % 255 = 0 := by
          rw [Int.natCast_mul, ← Int.mul_sub, Int.mul_emod, hmn]; simp
        omega
      rw [e]; omega
    have hr := tmod_rng n
    have hm : (Int.tmod n 255 - n) % 255 = 0 := by
      rcases Int.le_total 0 n with h | h
      · rw [Int.tmod_eq_emod_of_nonneg h]; omega
      · obtain ⟨j, rfl⟩ : ∃ j, n = -j := ⟨-n, by omega⟩
        rw [Int.neg_tmod, Int.tmod_eq_emod_of_nonneg (by omega)]; omega
    by_cases hs : Int.tmod n 255 < 0
    · rw [if_pos hs, show wrap64 (Int.tmod n 255 + 255) = Int.tmod n 255 + 255 by unfold wrap64; omega]
      obtain ⟨m, hm2⟩ := Int.eq_ofNat_of_zero_le (show 0 ≤ Int.tmod n 255 + 255 by omega)
      rw [hm2]
      exact key m (by omega) (by omega)
    · rw [if_neg hs]
      obtain ⟨m, hm2⟩ := Int.eq_ofNat_of_zero_le (show 0 ≤ Int.tmod n 255 by omega)
      rw [hm2]
      exact key m (by omega) (by omega)
theorem rexp_f (k : Nat) (n : Int) (hk : 300 ≤ k) : twoslotref01_Exp.f k n = some ((E (n % 255).toNat : Nat) : Int) := by
  unfold twoslotref01_Exp.f
  rw [show (2 : Int) = ((2 : Nat) : Int) from rfl, rpow_f k 2 n hk (by decide)]
  simp only [Option.bind_some]
  have h2 : L 2 = 1 := by decide +kernel
  rw [gp_ne 2 n (by decide), h2]; simp
theorem rlog_l0 (a : Nat) (ha : a < 256) : ∀ (d k n : Nat), d + 17 < k → n + d = 255 → (a ≠ 0 → n ≤ L a) → twoslotref01_Log.l0 k (a : Int) (E (n % 255) : Int) (n : Int) = some (if a = 0 then (0, 10) else ((L a : Int), 0))
  | 0, k, n, hk, hn, hl => by
    obtain ⟨k, rfl⟩ : ∃ m, k = m + 1 := ⟨k - 1, by omega⟩
    simp only [twoslotref01_Log.l0]
    rw [if_neg (by omega)]
    by_cases h0 : a = 0
    · rw [if_pos h0]
    · have := hl h0; have := L_lt ha h0; omega
  | d + 1, k, n, hk, hn, hl => by
    obtain ⟨k, rfl⟩ : ∃ m, k = m + 1 := ⟨k - 1, by omega⟩
    simp only [twoslotref01_Log.l0]
    rw [if_pos (by omega), Nat.mod_eq_of_lt (show n < 255 by omega)]
    by_cases e : E n = a
    · have h0 : a ≠ 0 := by rw [← e]; exact E_pos (by omega)
      have h1 : L a = n := by rw [← e, L_E (by omega)]
      rw [if_pos (by omega), if_neg h0, h1]
    · rw [if_neg (by omega), show (2 : Int) = ((2 : Nat) : Int) from rfl, rmul_f k _ 2 (by omega) (E_lt n) (by decide)]
      simp only [Option.bind_some]
      have e2 : gm (E n) 2 = E ((n + 1) % 255) := by
        rw [gm_comm, gm_two (E_lt n)]
        by_cases h : n = 254
        · subst h; exact E_last
        · rw [Nat.mod_eq_of_lt (by omega)]; exact (E_succ ⟨n, by omega⟩).symm
      rw [e2, show wrap64 ((n : Int) + 1) = ((n + 1 : Nat) : Int) by unfold wrap64; omega]
      refine rlog_l0 a ha d k (n + 1) (by omega) (by omega) (fun h0 => ?_)
      have := hl h0
      have : n ≠ L a := by rintro rfl; exact e (E_L ha h0)
      omega
theorem rlog_f (k a : Nat) (hk : 300 ≤ k) (ha : a < 256) : twoslotref01_Log.f k (a : Int) = some (if a = 0 then (0, 10) else ((L a : Int), 0)) :=
  rlog_l0 a ha 255 k 0 (by omega) (by omega) (fun _ => by omega)
end Go.Proofs.Ytljcenlecofbdaa.Pure
