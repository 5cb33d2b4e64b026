/- What the printed functions of gf's product come to, on bytes. No condition. -/
import Derived.Test.YtmmbojeikppinaaPAx1
import Derived.Test.YtmmbojeikppinaaPAx1
import Derived.Test.YtmmbojeikppinaaGF
import Derived.Laws.BitsAllLaws
namespace Go.Proofs.Ytmmbojeikppinaa.Pure
open Go Go.RowKit Go.TwoGf Go.Proofs.Ytmmbojeikppinaa.PA Go.Proofs.YtmmbojeikppinaaW.PrintWords Go.Proofs.YtmmbojeikppinaaW.PrintLast
theorem byte_of {a : Int} (h : (Lit.int .u8 a).wf = true) : ∃ n : Nat, n < 256 ∧ a = n := by
  have h1 : 0 ≤ a ∧ a < 256 := by
    have h2 : IntKind.u8.min ≤ a ∧ a ≤ IntKind.u8.max := by simpa [Lit.wf] using h
    have e1 : IntKind.u8.min = 0 := by decide
    have e2 : IntKind.u8.max = 255 := by decide
    omega
  obtain ⟨n, rfl⟩ := Int.eq_ofNat_of_zero_le h1.1
  exact ⟨n, by omega, rfl⟩
theorem twice_f (a : Nat) (h : a < 256) : gf_twice.f (a : Int) = some (tw a : Int) := by
  have : ∀ a : Fin 256, gf_twice.f (a.val : Int) = some ((tw a.val : Nat) : Int) := by decide +kernel
  exact this ⟨a, h⟩
theorem odd_and (a b : Nat) (h : a < 256) (hb : b < 256) : Go.bits .and .u8 (a : Int) ((-(Go.bits .and .u8 (b : Int) 1)) % 256) = ((if b % 2 = 1 then a else 0 : Nat) : Int) := by
  have h1 : Go.bits .and .u8 (b : Int) 1 = ((b % 2 : Nat) : Int) := by
    rw [show (1 : Int) = ((1 : Nat) : Int) from rfl, u8_and_nat b 1 hb (by decide), Nat.and_one_is_mod]
  rw [h1]
  rcases Nat.mod_two_eq_zero_or_one b with e | e
  · rw [e]; show Go.bits .and .u8 (a : Int) ((0 : Nat) : Int) = _
    rw [u8_and_nat a 0 h (by decide)]; simp
  · rw [e]; show Go.bits .and .u8 (a : Int) ((255 : Nat) : Int) = _
    rw [u8_and_nat a 255 h (by decide)]
    have : a &&& 255 = a := by
      rw [show (255 : Nat) = 2 ^ 8 - 1 from rfl, Nat.and_two_pow_sub_one_eq_mod]; exact Nat.mod_eq_of_lt h
    simp [this]
theorem half_two (b : Nat) (hb : b < 256) : b = (if b % 2 = 1 then 1 else 0) ^^^ tw (b / 2) := by
  have : ∀ b : Fin 256, b.val = (if b.val % 2 = 1 then 1 else 0) ^^^ tw (b.val / 2) := by decide +kernel
  exact this ⟨b, hb⟩
theorem gm_half (a b : Nat) (ha : a < 256) (hb : b < 256) : gm a b = (if b % 2 = 1 then a else 0) ^^^ gm (tw a) (b / 2) := by
  have e : gm a b = gm a ((if b % 2 = 1 then 1 else 0) ^^^ tw (b / 2)) := congrArg (gm a) (half_two b hb)
  rw [e, gm_xor, ← gm_two (by omega : b / 2 < 256), gm_left_comm, ← gm_assoc, gm_two ha]
  congr 1
  split
  · exact gm_one ha
  · exact gm_zero a
theorem mul_l0 : ∀ (j k a b c : Nat), j < k → b < 2 ^ j → j ≤ 8 → a < 256 → c < 256 → gf_Mul.l0 k (a : Int) (b : Int) (c : Int) = some ((c ^^^ gm a b : Nat) : Int)
  | 0, k, a, b, c, hk, hb, _, ha, hc => by
    obtain ⟨k, rfl⟩ : ∃ m, k = m + 1 := ⟨k - 1, by omega⟩
    obtain rfl : b = 0 := by omega
    simp [gf_Mul.l0, gm_zero]
  | j + 1, k, a, b, c, hk, hb, hj, ha, hc => by
    obtain ⟨k, rfl⟩ : ∃ m, k = m + 1 := ⟨k - 1, by omega⟩
    by_cases h0 : b = 0
    · subst h0; simp [gf_Mul.l0, gm_zero]
    · have hb256 : b < 256 := Nat.lt_of_lt_of_le hb (Nat.pow_le_pow_right (by decide) hj)
      simp only [gf_Mul.l0]
      rw [if_neg (by omega), twice_f a ha]
      simp only [Option.bind_some]
      have hx : (if b % 2 = 1 then a else 0) < 256 := by split <;> omega
      rw [odd_and a b ha hb256, u8_xor_nat c _ hc hx, show (b : Int) / 2 = ((b / 2 : Nat) : Int) by omega]
      rw [mul_l0 j k (tw a) (b / 2) _ (by omega) (by rw [Nat.pow_succ] at hb; omega) (by omega) (tw_lt a) (xor_lt hc hx), gm_half a b ha hb256, Nat.xor_assoc]
theorem mul_f (k a b : Nat) (hk : 9 ≤ k) (ha : a < 256) (hb : b < 256) : gf_Mul.f k (a : Int) (b : Int) = some ((gm a b : Nat) : Int) := by
  have := mul_l0 8 k a b 0 (by omega) hb (by omega) ha (by decide)
  rw [Nat.zero_xor] at this
  exact this
end Go.Proofs.Ytmmbojeikppinaa.Pure
