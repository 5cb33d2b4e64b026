/- What the printed functions of the reference's product come to, on bytes. No condition. -/
import Derived.Test.YtmeckhfoajfapaaPAx8
import Derived.Test.YtmeckhfoajfapaaGfM
import Derived.Laws.BitsAllLaws
namespace Go.Proofs.Ytmeckhfoajfapaa.Pure
open Go Go.RowKit Go.TwoGf Go.Proofs.Ytmeckhfoajfapaa.PA Go.Proofs.YtmeckhfoajfapaaW.PrintWords Go.Proofs.YtmeckhfoajfapaaW.PrintLast
def accN (a b : Nat) : Nat → Nat
  | 0 => 0
  | i + 1 => accN a b i ^^^ (if b.testBit i then a * 2 ^ i else 0)
def stepR (i X : Nat) : Nat := if X.testBit i then X ^^^ (285 * 2 ^ (i - 8)) else X
def redN : Nat → Nat → Nat
  | 0, X => X
  | d + 1, X => redN d (stepR (d + 8) X)
theorem xx (x y c : Nat) : (x ^^^ c) ^^^ (y ^^^ c) = x ^^^ y := by rw [Nat.xor_comm y c, ← Nat.xor_assoc, Nat.xor_assoc x c c, Nat.xor_self, Nat.xor_zero]
theorem stepR_xor (i X Y : Nat) : stepR i (X ^^^ Y) = stepR i X ^^^ stepR i Y := by
  unfold stepR
  rw [Nat.testBit_xor]
  cases X.testBit i <;> cases Y.testBit i
  · simp
  · simp [Nat.xor_assoc]
  · simp only [Bool.xor_false, if_true, Bool.false_eq_true, if_false]; ac_rfl
  · simp only [Bool.xor_true, Bool.not_true, Bool.false_eq_true, if_false, if_true]; exact (xx _ _ _).symm
theorem redN_xor : ∀ d X Y, redN d (X ^^^ Y) = redN d X ^^^ redN d Y
  | 0, _, _ => rfl
  | d + 1, X, Y => by simp only [redN]; rw [stepR_xor, redN_xor d]
theorem redN_zero : ∀ d, redN d 0 = 0
  | 0 => rfl
  | d + 1 => by simp only [redN, stepR]; simp; exact redN_zero d
theorem redN_base : ∀ a : Fin 256, ∀ i : Fin 8, redN 7 (a.val * 2 ^ i.val) = gm a.val (2 ^ i.val) := by decide +kernel
theorem low_bits : ∀ b : Fin 256, ∀ i : Fin 8, b.val % 2 ^ (i.val + 1) = b.val % 2 ^ i.val ^^^ (if b.val.testBit i.val then 2 ^ i.val else 0) := by decide +kernel
theorem redN_acc (a b : Nat) (ha : a < 256) (hb : b < 256) : ∀ i, i ≤ 8 → redN 7 (accN a b i) = gm a (b % 2 ^ i)
  | 0, _ => by simp [accN, redN_zero, Nat.mod_one, gm_zero]
  | i + 1, h => by
    have l := low_bits ⟨b, hb⟩ ⟨i, by omega⟩
    simp only at l
    simp only [accN]
    rw [redN_xor, redN_acc a b ha hb i (by omega), l, gm_xor]
    congr 1
    cases b.testBit i
    · simp [redN_zero, gm_zero]
    · exact redN_base ⟨a, ha⟩ ⟨i, by omega⟩
theorem accN_lt (a b : Nat) (ha : a < 256) : ∀ i, i ≤ 8 → accN a b i < 2 ^ 16
  | 0, _ => by simp [accN]
  | i + 1, h => by
    simp only [accN]
    refine Nat.xor_lt_two_pow (accN_lt a b ha i (by omega)) ?_
    split
    · calc a * 2 ^ i ≤ 255 * 2 ^ i := Nat.mul_le_mul_right _ (by omega)
        _ ≤ 255 * 2 ^ 7 := Nat.mul_le_mul_left _ (Nat.pow_le_pow_right (by decide) (by omega))
        _ < 2 ^ 16 := by decide
    · decide
theorem stepR_lt {i X : Nat} (h : X < 2 ^ 16) (hi : i ≤ 14) : stepR i X < 2 ^ 16 := by
  unfold stepR
  split
  · refine Nat.xor_lt_two_pow h ?_
    calc 285 * 2 ^ (i - 8) ≤ 285 * 2 ^ 6 := Nat.mul_le_mul_left _ (Nat.pow_le_pow_right (by decide) (by omega))
      _ < 2 ^ 16 := by decide
  · exact h
theorem ref_l1 : ∀ (d k X : Nat), d < k → d ≤ 7 → X < 2 ^ 16 → twoslotref01_Mul.l1 k (X : Int) ((d : Int) + 7) = some ((redN d X % 256 : Nat) : Int)
  | 0, k, X, hk, _, hX => by
    obtain ⟨k, rfl⟩ : ∃ m, k = m + 1 := ⟨k - 1, by omega⟩
    simp only [twoslotref01_Mul.l1]
    rw [if_neg (by omega)]
    simp [redN]
  | d + 1, k, X, hk, hd, hX => by
    obtain ⟨k, rfl⟩ : ∃ m, k = m + 1 := ⟨k - 1, by omega⟩
    have w1 : IntKind.u64.wrap (((d + 1 : Nat) : Int) + 7) = ((d + 8 : Nat) : Int) := by
      rw [show (((d + 1 : Nat) : Int) + 7) = ((d + 8 : Nat) : Int) by omega]
      simp [IntKind.wrap, IntKind.bits, IntKind.signed]; omega
    have w2 : wrap64 ((((d + 1 : Nat) : Int) + 7) - 8) = (d : Int) := by unfold wrap64; omega
    have w3 : IntKind.u64.wrap (d : Int) = (d : Int) := by simp [IntKind.wrap, IntKind.bits, IntKind.signed]; omega
    have w4 : wrap64 ((((d + 1 : Nat) : Int) + 7) - 1) = (d : Int) + 7 := by unfold wrap64; omega
    have s1 : shr .u32 (X : Int) ((d + 8 : Nat) : Int) = ((X >>> (d + 8) : Nat) : Int) := by
      rw [← shr_small (k := .u32) rfl (by simp [IntKind.bits]; omega)]
      rw [Int.toNat_natCast, Nat.shiftRight_eq_div_pow]; simp
    have b1 : Go.bits .and .u32 (shr .u32 (X : Int) ((d + 8 : Nat) : Int)) 1 = ((X >>> (d + 8) &&& 1 : Nat) : Int) := by
      rw [s1, show (1 : Int) = ((1 : Nat) : Int) from rfl, u32_and_nat _ 1 ?_ (by decide)]
      calc X >>> (d + 8) ≤ X := Nat.shiftRight_le _ _
        _ < _ := by omega
    have s2 : shl .u32 285 (d : Int) = ((285 * 2 ^ d : Nat) : Int) := by
      rw [← shl_small (k := .u32) rfl (by simp [IntKind.bits]; omega)]
      have h5 : 285 * 2 ^ d < 4294967296 := calc 285 * 2 ^ d ≤ 285 * 2 ^ 6 := Nat.mul_le_mul_left _ (Nat.pow_le_pow_right (by decide) (by omega))
          _ < _ := by decide
      rw [IntKind.wrap_u32', Int.toNat_natCast, show (285 : Int) * 2 ^ d = ((285 * 2 ^ d : Nat) : Int) by simp]
      omega
    simp only [twoslotref01_Mul.l1]
    rw [if_pos (by omega), w1, if_pos (by omega), b1, w2, w3, w4]
    have ht : (X >>> (d + 8) &&& 1 : Nat) = if X.testBit (d + 8) then 1 else 0 := by
      rw [Nat.and_one_is_mod, Nat.testBit_eq_decide_div_mod_eq, Nat.shiftRight_eq_div_pow]
      by_cases e : X / 2 ^ (d + 8) % 2 = 1
      · simp [e]
      · simp [e]; omega
    have hs : stepR (d + 8) X < 2 ^ 16 := stepR_lt hX (by omega)
    rw [ht]
    simp only [redN]
    have ih := ref_l1 d k (stepR (d + 8) X) (by omega) (by omega) hs
    by_cases e : X.testBit (d + 8) = true
    · rw [if_pos (by simp [e]), if_pos (by omega), s2, u32_xor_nat X _ (by omega) ?_]
      · rw [← ih]
        simp only [stepR, e, if_true, Nat.add_sub_cancel]
      · calc 285 * 2 ^ d ≤ 285 * 2 ^ 6 := Nat.mul_le_mul_left _ (Nat.pow_le_pow_right (by decide) (by omega))
          _ < _ := by decide
    · rw [if_neg (by simp [e]), ← ih]
      simp [stepR, e]
theorem redN_acc_lt (a b : Nat) (ha : a < 256) (hb : b < 256) : redN 7 (accN a b 8) % 256 = gm a b := by
  rw [redN_acc a b ha hb 8 (by omega), Nat.mod_eq_of_lt (gm_lt _ _)]
  exact gm_mod_right a b
theorem ref_l0 : ∀ (d k a b i : Nat), d + 8 < k → i + d = 8 → a < 256 → b < 256 → twoslotref01_Mul.l0 k (a : Int) (b : Int) (accN a b i : Int) (i : Int) = some ((gm a b : Nat) : Int)
  | 0, k, a, b, i, hk, hi, ha, hb => by
    obtain ⟨k, rfl⟩ : ∃ m, k = m + 1 := ⟨k - 1, by omega⟩
    obtain rfl : i = 8 := by omega
    simp only [twoslotref01_Mul.l0]
    rw [if_neg (by omega), ← redN_acc_lt a b ha hb]
    exact ref_l1 7 k _ (by omega) (by omega) (accN_lt a b ha 8 (by omega))
  | d + 1, k, a, b, i, hk, hi, ha, hb => by
    obtain ⟨k, rfl⟩ : ∃ m, k = m + 1 := ⟨k - 1, by omega⟩
    have w1 : IntKind.u64.wrap ((i : Int) + 1) = ((i + 1 : Nat) : Int) := by simp [IntKind.wrap, IntKind.bits, IntKind.signed]; omega
    have s1 : shr .u8 (b : Int) (i : Int) = ((b >>> i : Nat) : Int) := by
      rw [← shr_small (k := .u8) rfl (by simp [IntKind.bits]; omega)]
      rw [Int.toNat_natCast, Nat.shiftRight_eq_div_pow]; simp
    have b1 : Go.bits .and .u8 (shr .u8 (b : Int) (i : Int)) 1 = ((b >>> i &&& 1 : Nat) : Int) := by
      rw [s1, show (1 : Int) = ((1 : Nat) : Int) from rfl, u8_and_nat _ 1 ?_ (by decide)]
      calc b >>> i ≤ b := Nat.shiftRight_le _ _
        _ < _ := by omega
    have h5 : a * 2 ^ i < 4294967296 := calc a * 2 ^ i ≤ 255 * 2 ^ i := Nat.mul_le_mul_right _ (by omega)
        _ ≤ 255 * 2 ^ 7 := Nat.mul_le_mul_left _ (Nat.pow_le_pow_right (by decide) (by omega))
        _ < _ := by decide
    have s2 : shl .u32 ((a : Int) % 4294967296) (i : Int) = ((a * 2 ^ i : Nat) : Int) := by
      rw [← shl_small (k := .u32) rfl (by simp [IntKind.bits]; omega)]
      rw [IntKind.wrap_u32', Int.toNat_natCast, show (a : Int) % 4294967296 = (a : Int) by omega, show (a : Int) * 2 ^ i = ((a * 2 ^ i : Nat) : Int) by simp]
      omega
    have hx := accN_lt a b ha i (by omega)
    have ht : (b >>> i &&& 1 : Nat) = if b.testBit i then 1 else 0 := by
      rw [Nat.and_one_is_mod, Nat.testBit_eq_decide_div_mod_eq, Nat.shiftRight_eq_div_pow]
      by_cases e : b / 2 ^ i % 2 = 1
      · simp [e]
      · simp [e]; omega
    simp only [twoslotref01_Mul.l0]
    rw [if_pos (by omega), if_pos (by omega), b1, w1, ht]
    have ih := ref_l0 d k a b (i + 1) (by omega) (by omega) ha hb
    by_cases e : b.testBit i = true
    · rw [if_pos (by simp [e]), s2, u32_xor_nat _ _ (by omega) h5, ← ih]
      simp only [accN, e, if_true]
    · rw [if_neg (by simp [e]), ← ih]
      simp [accN, e]
theorem rmul_f (k a b : Nat) (hk : 17 ≤ k) (ha : a < 256) (hb : b < 256) : twoslotref01_Mul.f k (a : Int) (b : Int) = some ((gm a b : Nat) : Int) := ref_l0 8 k a b 0 (by omega) (by omega) ha hb
end Go.Proofs.Ytmeckhfoajfapaa.Pure
