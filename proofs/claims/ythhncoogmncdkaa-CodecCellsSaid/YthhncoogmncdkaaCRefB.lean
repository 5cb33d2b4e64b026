/- What the document's elimination and Inverse come to. No condition. -/
import Derived.Test.YthhncoogmncdkaaPCx19
import Derived.Test.YthhncoogmncdkaaLin
import Derived.Laws.BitsAllLaws
import Derived.Test.YthhncoogmncdkaaCSol
import Derived.Test.YthhncoogmncdkaaPCx25
import Derived.Test.YthhncoogmncdkaaPCx0
import Derived.Test.YthhncoogmncdkaaPCx26
import Derived.Test.YthhncoogmncdkaaPCx30
import Derived.Test.YthhncoogmncdkaaPCx13
import Derived.Test.YthhncoogmncdkaaMxSpo
import Derived.Test.YthhncoogmncdkaaPCx28
import Derived.Test.YthhncoogmncdkaaPCx22
namespace Go.Proofs.Ythhncoogmncdkaa.Pure
open Go Go.RowKit Go.TwoGf Go.Proofs.Ythhncoogmncdkaa.PC Go.Proofs.YthhncoogmncdkaaW.PrintWords Go.Proofs.YthhncoogmncdkaaW.PrintLast
def accN (a b : Nat) : Nat → Nat
  | 0 => 0
  | i + 1 => accN a b i ^^^ (if b.testBit i then a * 2 ^ i else 0)
def stepR (i X : Nat) : Nat := if X.testBit i then X ^^^ (285 * 2 ^ (i - 8)) else X
def redN : Nat → Nat → Nat
  | 0, X => X
  | d + 1, X => redN d (stepR (d + 8) X)
theorem xx (x y c : Nat) : (x ^^^ c) ^^^ (y ^^^ c) = x ^^^ y := by rw [Nat.xor_comm y c, ← Nat.xor_assoc, Nat.xor_assoc x c c, Nat.xor_self, Nat.xor_zero]
theorem stepR_xor (i X Y : Nat) : stepR i (X ^^^ Y) = stepR i X ^^^ stepR i Y := by
  unfold stepR
  rw [Nat.testBit_xor]
  cases X.testBit i <;> cases Y.testBit i
  · simp
  · simp [Nat.xor_assoc]
  · simp only [Bool.xor_false, if_true, Bool.false_eq_true, if_false]; ac_rfl
  · simp only [Bool.xor_true, Bool.not_true, Bool.false_eq_true, if_false, if_true]; exact (xx _ _ _).symm
theorem redN_xor : ∀ d X Y, redN d (X ^^^ Y) = redN d X ^^^ redN d Y
  | 0, _, _ => rfl
  | d + 1, X, Y => by simp only [redN]; rw [stepR_xor, redN_xor d]
theorem redN_zero : ∀ d, redN d 0 = 0
  | 0 => rfl
  | d + 1 => by simp only [redN, stepR]; simp; exact redN_zero d
theorem redN_base : ∀ a : Fin 256, ∀ i : Fin 8, redN 7 (a.val * 2 ^ i.val) = gm a.val (2 ^ i.val) := by decide +kernel
theorem low_bits : ∀ b : Fin 256, ∀ i : Fin 8, b.val % 2 ^ (i.val + 1) = b.val % 2 ^ i.val ^^^ (if b.val.testBit i.val then 2 ^ i.val else 0) := by decide +kernel
theorem redN_acc (a b : Nat) (ha : a < 256) (hb : b < 256) : ∀ i, i ≤ 8 → redN 7 (accN a b i) = gm a (b % 2 ^ i)
  | 0, _ => by simp [accN, redN_zero, Nat.mod_one, gm_zero]
  | i + 1, h => by
    have l := low_bits ⟨b, hb⟩ ⟨i, by omega⟩
    simp only at l
    simp only [accN]
    rw [redN_xor, redN_acc a b ha hb i (by omega), l, gm_xor]
    congr 1
    cases b.testBit i
    · simp [redN_zero, gm_zero]
    · exact redN_base ⟨a, ha⟩ ⟨i, by omega⟩
theorem accN_lt (a b : Nat) (ha : a < 256) : ∀ i, i ≤ 8 → accN a b i < 2 ^ 16
  | 0, _ => by simp [accN]
  | i + 1, h => by
    simp only [accN]
    refine Nat.xor_lt_two_pow (accN_lt a b ha i (by omega)) ?_
    split
    · calc a * 2 ^ i ≤ 255 * 2 ^ i := Nat.mul_le_mul_right _ (by omega)
        _ ≤ 255 * 2 ^ 7 := Nat.mul_le_mul_left _ (Nat.pow_le_pow_right (by decide) (by omega))
        _ < 2 ^ 16 := by decide
    · decide
theorem stepR_lt {i X : Nat} (h : X < 2 ^ 16) (hi : i ≤ 14) : stepR i X < 2 ^ 16 := by
  unfold stepR
  split
  · refine Nat.xor_lt_two_pow h ?_
    calc 285 * 2 ^ (i - 8) ≤ 285 * 2 ^ 6 := Nat.mul_le_mul_left _ (Nat.pow_le_pow_right (by decide) (by omega))
      _ < 2 ^ 16 := by decide
  · exact h
theorem ref_l1 : ∀ (d k X : Nat), d < k → d ≤ 7 → X < 2 ^ 16 → twoslotref01_Mul.l1 k (X : Int) ((d : Int) + 7) = some ((redN d X % 256 : Nat) : Int)
  | 0, k, X, hk, _, hX => by
    obtain ⟨k, rfl⟩ : ∃ m, k = m + 1 := ⟨k - 1, by omega⟩
    simp only [twoslotref01_Mul.l1]
    rw [if_neg (by omega)]
    simp [redN]
  | d + 1, k, X, hk, hd, hX => by
    obtain ⟨k, rfl⟩ : ∃ m, k = m + 1 := ⟨k - 1, by omega⟩
    have w1 : IntKind.u64.wrap (((d + 1 : Nat) : Int) + 7) = ((d + 8 : Nat) : Int) := by
      rw [show (((d + 1 : Nat) : Int) + 7) = ((d + 8 : Nat) : Int) by omega]
      simp [IntKind.wrap, IntKind.bits, IntKind.signed]; omega
    have w2 : wrap64 ((((d + 1 : Nat) : Int) + 7) - 8) = (d : Int) := by unfold wrap64; omega
    have w3 : IntKind.u64.wrap (d : Int) = (d : Int) := by simp [IntKind.wrap, IntKind.bits, IntKind.signed]; omega
    have w4 : wrap64 ((((d + 1 : Nat) : Int) + 7) - 1) = (d : Int) + 7 := by unfold wrap64; omega
    have s1 : shr .u32 (X : Int) ((d + 8 : Nat) : Int) = ((X >>> (d + 8) : Nat) : Int) := by
      rw [← shr_small (k := .u32) rfl (by simp [IntKind.bits]; omega)]
      rw [Int.toNat_natCast, Nat.shiftRight_eq_div_pow]; simp
    have b1 : Go.bits .and .u32 (shr .u32 (X : Int) ((d + 8 : Nat) : Int)) 1 = ((X >>> (d + 8) &&& 1 : Nat) : Int) := by
      rw [s1, show (1 : Int) = ((1 : Nat) : Int) from rfl, u32_and_nat _ 1 ?_ (by decide)]
      calc X >>> (d + 8) ≤ X := Nat.shiftRight_le _ _
        _ < _ := by omega
    have s2 : shl .u32 285 (d : Int) = ((285 * 2 ^ d : Nat) : Int) := by
      rw [← shl_small (k := .u32) rfl (by simp [IntKind.bits]; omega)]
      have h5 : 285 * 2 ^ d < 4294967296 := calc 285 * 2 ^ d ≤ 285 * 2 ^ 6 := Nat.mul_le_mul_left _ (Nat.pow_le_pow_right (by decide) (by omega))
          _ < _ := by decide
      rw [IntKind.wrap_u32', Int.toNat_natCast, show (285 : Int) * 2 ^ d = ((285 * 2 ^ d : Nat) : Int) by simp]
      omega
    simp only [twoslotref01_Mul.l1]
    rw [if_pos (by omega), w1, if_pos (by omega), b1, w2, w3, w4]
    have ht : (X >>> (d + 8) &&& 1 : Nat) = if X.testBit (d + 8) then 1 else 0 := by
      rw [Nat.and_one_is_mod, Nat.testBit_eq_decide_div_mod_eq, Nat.shiftRight_eq_div_pow]
      by_cases e : X / 2 ^ (d + 8) % 2 = 1
      · simp [e]
      · simp [e]; omega
    have hs : stepR (d + 8) X < 2 ^ 16 := stepR_lt hX (by omega)
    rw [ht]
    simp only [redN]
    have ih := ref_l1 d k (stepR (d + 8) X) (by omega) (by omega) hs
    by_cases e : X.testBit (d + 8) = true
    · rw [if_pos (by simp [e]), if_pos (by omega), s2, u32_xor_nat X _ (by omega) ?_]
      · rw [← ih]
        simp only [stepR, e, if_true, Nat.add_sub_cancel]
      · calc 285 * 2 ^ d ≤ 285 * 2 ^ 6 := Nat.mul_le_mul_left _ (Nat.pow_le_pow_right (by decide) (by omega))
          _ < _ := by decide
    · rw [if_neg (by simp [e]), ← ih]
      simp [stepR, e]
theorem redN_acc_lt (a b : Nat) (ha : a < 256) (hb : b < 256) : redN 7 (accN a b 8) % 256 = gm a b := by
  rw [redN_acc a b ha hb 8 (by omega), Nat.mod_eq_of_lt (gm_lt _ _)]
  exact gm_mod_right a b
theorem ref_l0 : ∀ (d k a b i : Nat), d + 8 < k → i + d = 8 → a < 256 → b < 256 → twoslotref01_Mul.l0 k (a : Int) (b : Int) (accN a b i : Int) (i : Int) = some ((gm a b : Nat) : Int)
  | 0, k, a, b, i, hk, hi, ha, hb => by
    obtain ⟨k, rfl⟩ : ∃ m, k = m + 1 := ⟨k - 1, by omega⟩
    obtain rfl : i = 8 := by omega
    simp only [twoslotref01_Mul.l0]
    rw [if_neg (by omega), ← redN_acc_lt a b ha hb]
    exact ref_l1 7 k _ (by omega) (by omega) (accN_lt a b ha 8 (by omega))
  | d + 1, k, a, b, i, hk, hi, ha, hb => by
    obtain ⟨k, rfl⟩ : ∃ m, k = m + 1 := ⟨k - 1, by omega⟩
    have w1 : IntKind.u64.wrap ((i : Int) + 1) = ((i + 1 : Nat) : Int) := by simp [IntKind.wrap, IntKind.bits, IntKind.signed]; omega
    have s1 : shr .u8 (b : Int) (i : Int) = ((b >>> i : Nat) : Int) := by
      rw [← shr_small (k := .u8) rfl (by simp [IntKind.bits]; omega)]
      rw [Int.toNat_natCast, Nat.shiftRight_eq_div_pow]; simp
    have b1 : Go.bits .and .u8 (shr .u8 (b : Int) (i : Int)) 1 = ((b >>> i &&& 1 : Nat) : Int) := by
      rw [s1, show (1 : Int) = ((1 : Nat) : Int) from rfl, u8_and_nat _ 1 ?_ (by decide)]
      calc b >>> i ≤ b := Nat.shiftRight_le _ _
        _ < _ := by omega
    have h5 : a * 2 ^ i < 4294967296 := calc a * 2 ^ i ≤ 255 * 2 ^ i := Nat.mul_le_mul_right _ (by omega)
        _ ≤ 255 * 2 ^ 7 := Nat.mul_le_mul_left _ (Nat.pow_le_pow_right (by decide) (by omega))
        _ < _ := by decide
    have s2 : shl .u32 ((a : Int) % 4294967296) (i : Int) = ((a * 2 ^ i : Nat) : Int) := by
      rw [← shl_small (k := .u32) rfl (by simp [IntKind.bits]; omega)]
      rw [IntKind.wrap_u32', Int.toNat_natCast, show (a : Int) % 4294967296 = (a : Int) by omega, show (a : Int) * 2 ^ i = ((a * 2 ^ i : Nat) : Int) by simp]
      omega
    have hx := accN_lt a b ha i (by omega)
    have ht : (b >>> i &&& 1 : Nat) = if b.testBit i then 1 else 0 := by
      rw [Nat.and_one_is_mod, Nat.testBit_eq_decide_div_mod_eq, Nat.shiftRight_eq_div_pow]
      by_cases e : b / 2 ^ i % 2 = 1
      · simp [e]
      · simp [e]; omega
    simp only [twoslotref01_Mul.l0]
    rw [if_pos (by omega), if_pos (by omega), b1, w1, ht]
    have ih := ref_l0 d k a b (i + 1) (by omega) (by omega) ha hb
    by_cases e : b.testBit i = true
    · rw [if_pos (by simp [e]), s2, u32_xor_nat _ _ (by omega) h5, ← ih]
      simp only [accN, e, if_true]
    · rw [if_neg (by simp [e]), ← ih]
      simp [accN, e]
theorem rmul_f (k a b : Nat) (hk : 17 ≤ k) (ha : a < 256) (hb : b < 256) : twoslotref01_Mul.f k (a : Int) (b : Int) = some ((gm a b : Nat) : Int) := ref_l0 8 k a b 0 (by omega) (by omega) ha hb
end Go.Proofs.Ythhncoogmncdkaa.Pure
namespace Go.Proofs.Ythhncoogmncdkaa.Pure
open Go Go.RowKit Go.TwoGf Go.Proofs.Ythhncoogmncdkaa.PC Go.Proofs.YthhncoogmncdkaaW.PrintWords Go.Proofs.YthhncoogmncdkaaW.PrintLast
set_option linter.unusedVariables false
theorem rinv_l0 (a : Nat) (ha : a < 256) : ∀ (d k b : Nat), d + 17 < k → b + d = 256 → 0 < b → (∀ c, 0 < c → c < b → gm a c ≠ 1) → twoslotref01_Inv.l0 k (a : Int) (b : Int) = some ((gi a : Int), if a = 0 then 10 else 0)
  | 0, k, b, hk, hb, h0, hn => by
    obtain ⟨k, rfl⟩ : ∃ m, k = m + 1 := ⟨k - 1, by omega⟩
    simp only [twoslotref01_Inv.l0]
    rw [if_neg (by omega)]
    by_cases e : a = 0
    · subst e; rfl
    · exact absurd (gm_gi ha e) (hn (gi a) (Nat.pos_of_ne_zero (gi_ne ha e)) (by have := gi_lt a; omega))
  | d + 1, k, b, hk, hb, h0, hn => by
    obtain ⟨k, rfl⟩ : ∃ m, k = m + 1 := ⟨k - 1, by omega⟩
    simp only [twoslotref01_Inv.l0]
    rw [if_pos (by omega), show (b : Int) % 256 = (b : Int) by omega, rmul_f k a b (by omega) ha (by omega)]
    simp only [Option.bind_some]
    by_cases e : gm a b = 1
    · have hb2 : b < 256 := by omega
      have e2 := gi_unique ha hb2 e
      have e3 : a ≠ 0 := by rintro rfl; rw [zero_gm] at e; exact absurd e (by decide)
      rw [if_pos (by omega), if_neg e3, ← e2]
    · rw [if_neg (by omega), show wrap64 ((b : Int) + 1) = ((b + 1 : Nat) : Int) by unfold wrap64; omega]
      refine rinv_l0 a ha d k (b + 1) (by omega) (by omega) (by omega) (fun c h1 h2 => ?_)
      by_cases h : c = b
      · subst h; exact e
      · exact hn c h1 (by omega)
theorem rinv_f (k a : Nat) (hk : 300 ≤ k) (ha : a < 256) : twoslotref01_Inv.f k (a : Int) = some ((gi a : Int), if a = 0 then 10 else 0) :=
  rinv_l0 a ha 255 k 1 (by omega) (by omega) (by omega) (fun c h1 h2 => by omega)
theorem rdiv_f (k a b : Nat) (hk : 300 ≤ k) (ha : a < 256) (hb : b < 256) : twoslotref01_Div.f k (a : Int) (b : Int) = some (if b = 0 then (0, 10) else (((gm a (gi b) : Nat) : Int), 0)) := by
  unfold twoslotref01_Div.f
  rw [rinv_f k b hk hb]
  simp only [Option.bind_some]
  by_cases h0 : b = 0
  · subst h0; rfl
  · rw [if_neg h0, if_pos rfl, rmul_f k a (gi b) (by omega) ha (gi_lt b), if_neg h0]; rfl
end Go.Proofs.Ythhncoogmncdkaa.Pure
namespace Go.Proofs.Ythhncoogmncdkaa.Pure
open Go Go.RowKit Go.TwoGf Go.TwoLin Go.Proofs.Ythhncoogmncdkaa Go.Proofs.Ythhncoogmncdkaa.PC Go.Proofs.YthhncoogmncdkaaW.PrintWords Go.Proofs.YthhncoogmncdkaaW.PrintLast Go.Proofs.YthhncoogmncdkaaW.PrintMore
set_option linter.unusedVariables false
theorem rmul_v {k : Nat} (hk : 17 ≤ k) {x y : Int} (hx : 0 ≤ x ∧ x < 256) (hy : 0 ≤ y ∧ y < 256) : twoslotref01_Mul.f k x y = some (ofF (toF x * toF y)) := by
  obtain ⟨a, ha, rfl⟩ := nat_of hx
  obtain ⟨b, hb, rfl⟩ := nat_of hy
  rw [rmul_f k a b hk ha hb]
  unfold ofF
  rw [v_mul, v_nat ha, v_nat hb]
theorem rinv_v {k : Nat} (hk : 300 ≤ k) {x : Int} (hx : 0 ≤ x ∧ x < 256) : twoslotref01_Inv.f k x = some (ofF (inv (toF x)), if x = 0 then 10 else 0) := by
  obtain ⟨a, ha, rfl⟩ := nat_of hx
  rw [rinv_f k a hk ha]
  unfold ofF
  rw [v_inv, v_nat ha]
  by_cases h : a = 0
  · rw [if_pos h, if_pos (by omega)]
  · rw [if_neg h, if_neg (by omega)]
theorem rdiv_v {k : Nat} (hk : 300 ≤ k) {x y : Int} (hx : 0 ≤ x ∧ x < 256) (hy : 0 ≤ y ∧ y < 256) (h0 : y ≠ 0) : twoslotref01_Div.f k x y = some (ofF (toF x * inv (toF y)), 0) := by
  obtain ⟨a, ha, rfl⟩ := nat_of hx
  obtain ⟨b, hb, rfl⟩ := nat_of hy
  rw [rdiv_f k a b hk ha hb, if_neg (by omega)]
  unfold ofF
  rw [v_mul, v_inv, v_nat ha, v_nat hb]
end Go.Proofs.Ythhncoogmncdkaa.Pure
namespace Go.Proofs.Ythhncoogmncdkaa.Pure
open Go Go.RowKit Go.TwoGf Go.Proofs.Ythhncoogmncdkaa Go.Proofs.Ythhncoogmncdkaa.PC Go.Proofs.YthhncoogmncdkaaW.PrintWords Go.Proofs.YthhncoogmncdkaaW.PrintLast Go.Proofs.YthhncoogmncdkaaW.PrintMore
set_option linter.unusedVariables false
theorem rmulI_f {k : Nat} (hk : 17 ≤ k) {c x : Int} (hc : 0 ≤ c ∧ c < 256) (hx : 0 ≤ x ∧ x < 256) : twoslotref01_Mul.f k c x = some (mI c x) := by
  obtain ⟨a, ha, rfl⟩ := nat_of hc
  obtain ⟨b, hb, rfl⟩ := nat_of hx
  exact rmul_f k a b hk ha hb
theorem take_set1 {z : List Int} {i : Nat} (v : Int) (h : i < z.length) : (z.set i v).take (i + 1) = z.take i ++ [v] := by
  rw [List.take_succ_eq_append_getElem (by simpa using h), List.getElem_set_self, List.take_set, List.set_eq_of_length_le (by simp; omega)]
theorem rd_setI {t : List Int} {i : Nat} (v : Int) (h : i < t.length) (j : Nat) : rd (t.set i v) j = if j = i then v else rd t j := by
  unfold rd
  simp only [Int.toNat_natCast, List.getD_eq_getElem?_getD, List.getElem?_set]
  by_cases e : j = i
  · subst e; simp [h]
  · rw [if_neg e, if_neg (fun h => e h.symm)]
theorem addv_at {a b : List Int} (c : Int) {i : Nat} (h : i < a.length) (hl : a.length ≤ b.length) : (addv a c b).take (i + 1) = (addv a c b).take i ++ [aI (rd a i) (mI c (rd b i))] := by
  rw [List.take_succ_eq_append_getElem (by rw [addv_len c hl]; exact h)]
  congr 2
  unfold addv
  rw [List.getElem_zipWith, rd_nat h, rd_nat (by omega)]
theorem radd_l1 {a b t : List Int} {c : Int} (hb : isB b) (hl : a.length ≤ b.length) (hs : a.length ≤ 200000) (ht : t.length = 256) (hT : ∀ j : Nat, j < 256 → rd t j = mI c j) :
    ∀ (d k i : Nat) (z : List Int), i + d = a.length → d < k → z.length = a.length → z.take i = (addv a c b).take i → twoslotref02_Add.l1 k a b t z (i : Int) = some (addv a c b)
  | 0, k, i, z, hi, hk, hz, h => by
    obtain ⟨k, rfl⟩ : ∃ m, k = m + 1 := ⟨k - 1, by omega⟩
    obtain rfl : i = a.length := by omega
    simp only [twoslotref02_Add.l1]
    rw [if_neg (by omega)]
    rw [List.take_of_length_le (by omega), List.take_of_length_le (by rw [addv_len c hl]; exact Nat.le_refl _)] at h
    rw [h]
  | d + 1, k, i, z, hi, hk, hz, h => by
    obtain ⟨k, rfl⟩ : ∃ m, k = m + 1 := ⟨k - 1, by omega⟩
    have hlt : i < a.length := by omega
    have hr := isB_rd hb (i : Int)
    have ev : Go.bits .xor .u8 (rd a i) (rd t (rd b i)) = aI (rd a i) (mI c (rd b i)) := by
      have := hT (rd b i).toNat (by omega)
      rw [Int.toNat_of_nonneg hr.1] at this
      rw [this]; rfl
    simp only [twoslotref02_Add.l1]
    rw [if_pos (by omega), if_pos (by omega), if_pos (by omega), if_pos hr.1, if_pos (by omega), if_pos (by omega), wrap_s (by omega) (by omega), ev, Int.toNat_natCast]
    have := radd_l1 hb hl hs ht hT d k (i + 1) (z.set i (aI (rd a i) (mI c (rd b i)))) (by omega) (by omega) (by simpa using hz) (by rw [take_set1 _ (by omega), h, addv_at c hlt hl])
    rw [show ((i + 1 : Nat) : Int) = (i : Int) + 1 by omega] at this
    exact this
theorem radd_l0 {a b : List Int} {c : Int} (hc : 0 ≤ c ∧ c < 256) (hb : isB b) (hl : a.length ≤ b.length) (hs : a.length ≤ 200000) :
    ∀ (d k i : Nat) (t : List Int), i + d = 256 → d + a.length + 30 < k → t.length = 256 → (∀ j : Nat, j < i → rd t j = mI c j) → twoslotref02_Add.l0 k a c b t (i : Int) = some (addv a c b)
  | 0, k, i, t, hi, hk, ht, h => by
    obtain ⟨k, rfl⟩ : ∃ m, k = m + 1 := ⟨k - 1, by omega⟩
    obtain rfl : i = 256 := by omega
    simp only [twoslotref02_Add.l0]
    rw [if_neg (by omega), if_pos (by omega), if_pos (by omega), Int.toNat_natCast]
    exact radd_l1 hb hl hs ht h a.length k 0 _ (by omega) (by omega) (by simp) (by simp)
  | d + 1, k, i, t, hi, hk, ht, h => by
    obtain ⟨k, rfl⟩ : ∃ m, k = m + 1 := ⟨k - 1, by omega⟩
    simp only [twoslotref02_Add.l0]
    rw [if_pos (by omega), Int.emod_eq_of_lt (by omega) (by omega), rmulI_f (by omega) hc ⟨by omega, by omega⟩]
    simp only [Option.bind_some]
    rw [if_pos (by omega), if_pos (by omega), wrap_s (by omega) (by omega), Int.toNat_natCast]
    have := radd_l0 hc hb hl hs d k (i + 1) (t.set i (mI c i)) (by omega) (by omega) (by simpa using ht) (fun j hj => by
      rw [rd_setI _ (by omega)]
      by_cases e : j = i
      · rw [if_pos e, e]
      · rw [if_neg e, h j (by omega)])
    rw [show ((i + 1 : Nat) : Int) = (i : Int) + 1 by omega] at this
    exact this
theorem radd_f {k : Nat} {a b : List Int} {c : Int} (hk : a.length + 300 < k) (hc : 0 ≤ c ∧ c < 256) (hb : isB b) (hl : a.length ≤ b.length) (hs : a.length ≤ 200000) : twoslotref02_Add.f k a c b = some (addv a c b) := by
  unfold twoslotref02_Add.f
  rw [if_pos (by omega)]
  exact radd_l0 hc hb hl hs 256 k 0 _ (by omega) (by omega) List.length_replicate (fun j hj => by omega)
theorem alk_at {l : List (List Int)} {i : Nat} (h : i < l.length) (ha : alk l = true) : l[i].length ≤ 65536 ∧ l[i].length = (rd_L1 l 0).length := by
  have := List.all_eq_true.1 ha l[i] (List.getElem_mem _)
  simpa using this
theorem rdot_l1 {c : List Int} {l : List (List Int)} (hc : isB c) (hl : ∀ b ∈ l, isB b) (hcl : l.length = c.length) (hs : l.length ≤ 16) {n : Nat} (hn : ∀ b ∈ l, b.length = n) (hns : n ≤ 65536) :
    ∀ (d k i : Nat) (acc : List Int), i + d = l.length → d + n + 310 < k → acc.length = n → twoslotref02_Dot.l1 k c l acc (i : Int) = some (dacc acc (c.drop i) (l.drop i), 0)
  | 0, k, i, acc, hi, hk, _ => by
    obtain ⟨k, rfl⟩ : ∃ m, k = m + 1 := ⟨k - 1, by omega⟩
    obtain rfl : i = l.length := by omega
    simp [twoslotref02_Dot.l1, dacc]
  | d + 1, k, i, acc, hi, hk, ha => by
    obtain ⟨k, rfl⟩ : ∃ m, k = m + 1 := ⟨k - 1, by omega⟩
    have hlt : i < l.length := by omega
    have hlt2 : i < c.length := by omega
    have hm : l[i] ∈ l := List.getElem_mem _
    simp only [twoslotref02_Dot.l1]
    rw [if_pos (by omega), if_pos (by omega), if_pos (by omega), rd_L1_nat hlt, radd_f (by omega) (isB_rd hc _) (hl _ hm) (by rw [hn _ hm, ha]; exact Nat.le_refl _) (by omega)]
    simp only [Option.bind_some]
    rw [wrap_s (by omega) (by omega)]
    have := rdot_l1 hc hl hcl hs hn hns d k (i + 1) (addv acc (rd c i) l[i]) (by omega) (by omega) (by rw [addv_len _ (by rw [hn _ hm, ha]; exact Nat.le_refl _), ha])
    rw [show ((i + 1 : Nat) : Int) = (i : Int) + 1 by omega] at this
    rw [this, List.drop_eq_getElem_cons hlt, List.drop_eq_getElem_cons hlt2, dacc, rd_nat hlt2]
theorem rdot_l0 {c : List Int} {l : List (List Int)} (hc : isB c) (hl : ∀ b ∈ l, isB b) (hcl : l.length = c.length) (hs : l.length ≤ 16) :
    ∀ (d k i : Nat), i + d = l.length → d + 66000 < k → (∀ j (h : j < l.length), j < i → l[j].length ≤ 65536 ∧ l[j].length = (rd_L1 l 0).length) →
      twoslotref02_Dot.l0 k c l (i : Int) = some (if alk l = true then (if l.length = 0 then ([], 0) else (dacc (List.replicate (rd_L1 l 0).length 0) c l, 0)) else ([], 20))
  | 0, k, i, hi, hk, h => by
    obtain ⟨k, rfl⟩ : ∃ m, k = m + 1 := ⟨k - 1, by omega⟩
    obtain rfl : i = l.length := by omega
    have ha : alk l = true := List.all_eq_true.2 fun b hb => by
      obtain ⟨j, hj, rfl⟩ := List.getElem_of_mem hb
      have := h j hj hj
      rw [decide_eq_true this.1, decide_eq_true this.2]; rfl
    simp only [twoslotref02_Dot.l0]
    rw [if_neg (by omega), if_pos ha]
    by_cases h4 : l.length = 0
    · rw [if_pos (show (l.length : Int) = 0 by omega), if_pos h4]
    · have h0 : 0 < l.length := by omega
      have e : rd_L1 l 0 = l[0] := rd_L1_nat (i := 0) h0
      have h5 := (h 0 h0 h0).1
      have h6 : (rd_L1 l 0).length ≤ 65536 := by rw [e]; exact h5
      rw [if_neg (show ¬ (l.length : Int) = 0 by omega), if_neg h4, if_pos (show (0 : Int) < (l.length : Int) by omega), if_pos (show (0 : Int) ≤ ((rd_L1 l 0).length : Int) by omega), if_pos (show (((rd_L1 l 0).length : Int)).toNat ≤ 281474976710656 by rw [Int.toNat_natCast]; omega), Int.toNat_natCast]
      exact rdot_l1 hc hl hcl hs (alk_all ha) h6 l.length k 0 _ (by omega) (by omega) (by simp)
  | d + 1, k, i, hi, hk, h => by
    obtain ⟨k, rfl⟩ : ∃ m, k = m + 1 := ⟨k - 1, by omega⟩
    have hlt : i < l.length := by omega
    simp only [twoslotref02_Dot.l0]
    rw [if_pos (show (i : Int) < (l.length : Int) by omega), if_pos (show (0 : Int) ≤ (i : Int) by omega), rd_L1_nat hlt]
    by_cases h1 : l[i].length ≤ 65536
    · rw [if_neg (show ¬ (l[i].length : Int) > 65536 by omega), if_pos (show (0 : Int) < (l.length : Int) by omega)]
      by_cases h2 : l[i].length = (rd_L1 l 0).length
      · rw [if_pos (show (l[i].length : Int) = ((rd_L1 l 0).length : Int) by omega), wrap_s (by omega) (by omega)]
        have := rdot_l0 hc hl hcl hs d k (i + 1) (by omega) (by omega) (fun j hj hji => by
          by_cases e : j = i
          · subst e; exact ⟨h1, h2⟩
          · exact h j hj (by omega))
        rw [show ((i + 1 : Nat) : Int) = (i : Int) + 1 by omega] at this
        exact this
      · rw [if_neg (show ¬ (l[i].length : Int) = ((rd_L1 l 0).length : Int) by omega), if_neg (fun ha => h2 (alk_at hlt ha).2)]
    · rw [if_pos (show (l[i].length : Int) > 65536 by omega), if_neg (fun ha => h1 (alk_at hlt ha).1)]
theorem rdot_f {k : Nat} {c : List Int} {l : List (List Int)} (hk : 67000 < k) (hc : isB c) (hl : ∀ b ∈ l, isB b) : twoslotref02_Dot.f k c l = some (dotv c l) := by
  obtain ⟨k, rfl⟩ : ∃ m, k = m + 1 := ⟨k - 1, by omega⟩
  unfold twoslotref02_Dot.f dotv
  by_cases h1 : c.length ≤ 16
  case neg => rw [if_pos (by omega), if_neg (by omega)]; simp [twoslotref02_Dot.j0]
  rw [if_neg (by omega)]
  by_cases h2 : l.length = c.length
  case neg =>
    rw [if_neg (show ¬ (c.length ≤ 16 ∧ l.length = c.length ∧ alk l = true) by omega)]
    have : ((l.length : Int) != (c.length : Int)) = true := bne_iff_ne.mpr (by omega)
    rw [this]; simp [twoslotref02_Dot.j0]
  have : ((l.length : Int) != (c.length : Int)) = false := bne_eq_false_iff_eq.mpr (by omega)
  rw [this]
  simp only [twoslotref02_Dot.j0]
  rw [if_neg (show ¬ false = true by decide)]
  have := rdot_l0 hc hl h2 (by omega) l.length k 0 (by omega) (by omega) (fun j _ hj => by omega)
  rw [show ((0 : Nat) : Int) = 0 from rfl] at this
  rw [this]
  cases h3 : alk l with
  | false => rw [if_neg (by decide), if_neg (by simp)]
  | true => rw [if_pos rfl, if_pos (show c.length ≤ 16 ∧ l.length = c.length ∧ true = true from ⟨h1, h2, rfl⟩)]
theorem twin_l0 (l : List (List Int)) (hs : l.length ≤ 100000) (hb : ∀ b ∈ l, b.length ≤ 140737488351232) : ∀ (d k i : Nat), i + d = l.length → d < k → twoslotref02_Twin.l0 k l (l.take i) (i : Int) = some l
  | 0, k, i, hi, hk => by
    obtain ⟨k, rfl⟩ : ∃ m, k = m + 1 := ⟨k - 1, by omega⟩
    obtain rfl : i = l.length := by omega
    simp [twoslotref02_Twin.l0]
  | d + 1, k, i, hi, hk => by
    obtain ⟨k, rfl⟩ : ∃ m, k = m + 1 := ⟨k - 1, by omega⟩
    have hlt : i < l.length := by omega
    have := hb l[i] (List.getElem_mem _)
    simp only [twoslotref02_Twin.l0]
    rw [if_pos (by omega), if_pos (by omega), rd_L1_nat hlt, if_pos (by simp; omega), if_pos (by simp; omega), wrap_s (by omega) (by omega), List.nil_append]
    have := twin_l0 l hs hb d k (i + 1) (by omega) (by omega)
    rw [show ((i + 1 : Nat) : Int) = (i : Int) + 1 by omega, List.take_succ_eq_append_getElem hlt] at this
    exact this
theorem twin_f {k : Nat} {l : List (List Int)} (hs : l.length ≤ 100000) (hb : ∀ b ∈ l, b.length ≤ 140737488351232) (hk : l.length < k) : twoslotref02_Twin.f k l = some l := by
  have := twin_l0 l hs hb l.length k 0 (by omega) hk
  exact this
end Go.Proofs.Ythhncoogmncdkaa.Pure
namespace Go.Proofs.Ythhncoogmncdkaa.Pure
open Go Go.RowKit Go.TwoGf Go.TwoLin Go.Proofs.Ythhncoogmncdkaa Go.Proofs.Ythhncoogmncdkaa.PC Go.Proofs.YthhncoogmncdkaaW.PrintWords Go.Proofs.YthhncoogmncdkaaW.PrintLast
set_option linter.unusedVariables false
theorem oneM (n : Nat) : matrix_One.M n = mkF n n dl := by
  unfold matrix_One.M mkF
  refine List.map_congr_left fun i _ => List.map_congr_left fun j _ => ?_
  unfold dl
  by_cases h : i = j
  · rw [if_pos h, if_pos h]; rfl
  · rw [if_neg h, if_neg h]; rfl
theorem one_f {n : Nat} (h1 : 1 ≤ n) (h2 : n ≤ 32) : matrix_One.f (n : Int) = some (mkF n n dl, 0) := by
  unfold matrix_One.f
  rw [if_neg (by omega), if_neg (by omega), Int.toNat_natCast, oneM]
/-- the parity's numbers -/
def cau (k i j : Nat) : F := inv (toF ((k + i : Nat) : Int) + toF (j : Int))
theorem cauchy_G {k i j : Nat} (hk : k ≤ 12) (hi : i < 4) (hj : j < k) : gf_Inv.f (matrix_Cauchy.at_ (k : Int) i j) = some (ofF (cau k i j), if matrix_Cauchy.at_ (k : Int) i j = 0 then 10 else 0) := by
  have e : matrix_Cauchy.at_ (k : Int) i j = ofF (toF ((k + i : Nat) : Int) + toF (j : Int)) := by
    unfold matrix_Cauchy.at_
    rw [show (k : Int) + (i : Int) = ((k + i : Nat) : Int) by omega]
    exact xor_v (by omega) (by omega)
  rw [e, inv_v (ofF_rng _), toF_ofF]
  rfl
theorem twin_ok {a : List (List Int)} (ga : good a) : matrix_twin.ok a := ⟨by have := ga.1; omega, by have := ga.2.1; omega, by have := ga.2.2.1; omega, by have := ga.2.2.2.1; omega, ga.2.2.2.2⟩
theorem inverse_f {k : Nat} (hk : 200 ≤ k) {a : List (List Int)} (ha : isM a) (ga : good a) (hs : a.length = (rw_ a 0).length) :
    (∃ r : Nat, r < a.length ∧ Rk a.length a.length r (cell a) ∧ matrix_Inverse.f k a = some ([], 5)) ∨
    (∃ V, matrix_Inverse.f k a = some (V, 0) ∧ rect a.length a.length V ∧ isM V ∧ Rk a.length a.length a.length (cell a) ∧ (∀ i j, i < a.length → j < a.length → mm a.length (cell V) (cell a) i j = dl i j) ∧ (∀ i j, i < a.length → j < a.length → mm a.length (cell a) (cell V) i j = dl i j)) := by
  have hr := good_rect ga
  rw [← hs] at hr
  have h32 := ga.2.1
  generalize hn : a.length = n at hr h32
  obtain ⟨M', B', r, piv, h1, h2, h3, h4, h5, h6, h7, h8⟩ := solve_v (k := k) (M := a) (B := mkF n n dl) (by have := ga.1; omega) (by omega) (by omega) (by omega) hk hr (rect_mkF n n dl) ha (isM_mkF n n dl)
  have hf : matrix_Inverse.f k a = if r < n then some ([], 5) else some (B', 0) := by
    unfold matrix_Inverse.f
    rw [check_f (by omega)]
    unfold ckv
    rw [if_pos ga]
    simp only [Option.bind_some, if_true]
    rw [if_pos (twin_ok ga), if_pos hs, hn, one_f (by have := ga.1; omega) h32]
    simp only [Option.bind_some]
    rw [if_pos ⟨trivial, (rect_mkF n n dl).1, (rect_mkF n n dl).2⟩, h1]
    rfl
  have hk2 : Rk n n r (cell a) := Rk_congr (fun i j _ hj => J_left hj) (Inv_rank h6 h8)
  by_cases hlt : r < n
  · exact .inl ⟨r, hlt, hk2, by rw [hf, if_pos hlt]⟩
  · right
    obtain rfl : r = n := Nat.le_antisymm h6.le (by omega)
    have hinv := Inv_inverse h6 h8 (fun i j hi hj => by rw [J_right, cell_mkF hi hj])
    have hp := piv_id h6.lt h6.up
    have hd : ∀ i, i < r → inv (J r M' B' i i) = 1 := fun i hi => by
      have := h7 i hi
      rw [hp i hi] at this
      rw [this]
      have e := mul_inv one_ne
      rwa [one_mul] at e
    have e1 : ∀ i j, i < r → (fun i j => inv (J r M' B' i i) * J r M' B' i (r + j)) i j = cell B' i j := fun i j hi => by
      show inv (J r M' B' i i) * J r M' B' i (r + j) = cell B' i j
      rw [hd i hi, one_mul, J_right]
    refine ⟨B', by rw [hf, if_neg hlt], h3, h5, hk2, fun i j hi hj => ?_, fun i j hi hj => ?_⟩
    · rw [← hinv.1 i j hi hj]
      exact mm_congr (fun q _ => (e1 i q hi).symm) (fun q hq => (J_left hj).symm)
    · rw [← hinv.2 i j hi hj]
      exact mm_congr (fun q hq => (J_left hq).symm) (fun q hq => (e1 q j hq).symm)
theorem sm_filter (p : Nat → Bool) (f : Nat → F) : ∀ l : List Nat, sm l f = sm (l.filter p) f + sm (l.filter fun x => !p x) f
  | [] => (add_zero 0).symm
  | x :: l => by
    rw [sm_cons, sm_filter p f l, List.filter_cons, List.filter_cons]
    cases p x with
    | true => simp only [if_true, Bool.not_true, Bool.false_eq_true, if_false, sm_cons]; rw [add_assoc]
    | false => simp only [if_true, Bool.not_false, Bool.false_eq_true, if_false, sm_cons]; ac_rfl
theorem len_filter (p : Nat → Bool) : ∀ l : List Nat, (l.filter p).length + (l.filter fun x => !p x).length = l.length
  | [] => rfl
  | x :: l => by
    have := len_filter p l
    rw [List.filter_cons, List.filter_cons]
    cases p x with
    | true => simp; omega
    | false => simp; omega
theorem toF_nat_inj {a b : Nat} (ha : a < 256) (hb : b < 256) (h : toF (a : Int) = toF (b : Int)) : a = b := by
  have := congrArg F.v h
  rwa [v_nat ha, v_nat hb] at this
end Go.Proofs.Ythhncoogmncdkaa.Pure
namespace Go.Proofs.Ythhncoogmncdkaa.Pure
open Go Go.RowKit Go.TwoGf Go.TwoLin Go.Proofs.Ythhncoogmncdkaa Go.Proofs.Ythhncoogmncdkaa.PC Go.Proofs.YthhncoogmncdkaaW.PrintWords Go.Proofs.YthhncoogmncdkaaW.PrintLast Go.Proofs.YthhncoogmncdkaaW.PrintMore
set_option linter.unusedVariables false
theorem rcheck_l0 {M : List (List Int)} (h0 : 0 < M.length) (hM : M.length ≤ 32) : ∀ (d k i : Nat), i + d = M.length → d < k → twoslotref03_Check.l0 k M (i : Int) = some (if ∀ r ∈ M.drop i, r.length = (rw_ M 0).length then 0 else 30) := by
  intro d
  induction d with
  | zero =>
    intro k i hi hk
    obtain ⟨k, rfl⟩ : ∃ q, k = q + 1 := ⟨k - 1, by omega⟩
    rw [twoslotref03_Check.l0, if_neg (by omega), List.drop_of_length_le (by omega), if_pos (fun r hr => by cases hr)]
  | succ d ih =>
    intro k i hi hk
    obtain ⟨k, rfl⟩ : ∃ q, k = q + 1 := ⟨k - 1, by omega⟩
    have hil : i < M.length := by omega
    rw [twoslotref03_Check.l0, if_pos (by omega), if_pos (by omega), if_pos (by omega), rdL, rdL0, List.drop_eq_getElem_cons hil, ← rw_lt hil]
    by_cases h3 : (rw_ M i).length = (rw_ M 0).length
    · rw [if_pos (by omega), w64 (by omega), ih k (i + 1) (by omega) (by omega)]
      by_cases h4 : ∀ r ∈ M.drop (i + 1), r.length = (rw_ M 0).length
      · rw [if_pos h4, if_pos (fun r hr => by
          rcases List.mem_cons.1 hr with rfl | hr
          · exact h3
          · exact h4 r hr)]
      · rw [if_neg h4, if_neg (fun z => h4 fun r hr => z r (List.mem_cons_of_mem _ hr))]
    · rw [if_neg (by omega), if_neg (fun z => h3 (z (rw_ M i) (by simp)))]
theorem rcheck_f {k : Nat} (hk : 40 ≤ k) (M : List (List Int)) : twoslotref03_Check.f k M = some (ckv M) := by
  obtain ⟨k, rfl⟩ : ∃ q, k = q + 1 := ⟨k - 1, by omega⟩
  have jt : twoslotref03_Check.j0 (k + 1) M true = some 30 := by rw [twoslotref03_Check.j0, if_pos rfl]
  unfold twoslotref03_Check.f ckv
  by_cases h1 : M.length < 1
  · rw [if_pos (by omega), jt, if_neg (fun z => by have := z.1; omega)]
  rw [if_neg (by omega)]
  by_cases h2 : M.length > 32
  · rw [if_pos (by omega), jt, if_neg (fun z => by have := z.2.1; omega)]
  rw [if_neg (by omega), if_pos (by omega), rdL0]
  by_cases h3 : (rw_ M 0).length < 1
  · rw [if_pos (by omega), jt, if_neg (fun z => by have := z.2.2.1; omega)]
  rw [if_neg (by omega), twoslotref03_Check.j0]
  by_cases h4 : (rw_ M 0).length > 32
  · rw [if_pos (by simp; omega), if_neg (fun z => by have := z.2.2.2.1; omega)]
  rw [if_neg (by simp; omega), show (0 : Int) = ((0 : Nat) : Int) from rfl, rcheck_l0 (by omega) (by omega) M.length k 0 (by omega) (by omega), List.drop_zero]
  by_cases h5 : ∀ r ∈ M, r.length = (rw_ M 0).length
  · rw [if_pos h5, if_pos ⟨by omega, by omega, by omega, by omega, h5⟩]; rfl
  · rw [if_neg h5, if_neg (fun z => h5 z.2.2.2.2)]
theorem blank_l0 {n m : Nat} (hn : n ≤ 1000) (hm : m ≤ 1000) : ∀ (d k i : Nat), i + d = n → d < k → twoslotref03_blank.l0 k (n : Int) (m : Int) (List.replicate i (List.replicate m 0)) (i : Int) = some (List.replicate n (List.replicate m 0)) := by
  intro d
  induction d with
  | zero =>
    intro k i hi hk
    obtain ⟨k, rfl⟩ : ∃ q, k = q + 1 := ⟨k - 1, by omega⟩
    obtain rfl : i = n := by omega
    rw [twoslotref03_blank.l0, if_neg (by omega)]
  | succ d ih =>
    intro k i hi hk
    obtain ⟨k, rfl⟩ : ∃ q, k = q + 1 := ⟨k - 1, by omega⟩
    rw [twoslotref03_blank.l0, if_pos (by omega), if_pos (by omega), if_pos (by omega), if_pos (by rw [List.length_replicate]; omega), w64 (by omega), Int.toNat_natCast, ← List.replicate_succ']
    exact ih k (i + 1) (by omega) (by omega)
theorem blank_f {k n m : Nat} (hn : n ≤ 1000) (hm : m ≤ 1000) (hk : n < k) : twoslotref03_blank.f k (n : Int) (m : Int) = some (List.replicate n (List.replicate m 0)) :=
  blank_l0 hn hm n k 0 (by omega) hk
theorem rep_mkF (n m : Nat) : List.replicate n (List.replicate m (0 : Int)) = mkF n m (fun _ _ => 0) := by
  refine ext_rw (by simp [mkF]) fun i hi => ?_
  rw [List.length_replicate] at hi
  rw [rw_mkF hi]
  have : rw_ (List.replicate n (List.replicate m (0 : Int))) i = List.replicate m 0 := by simp [rw_, hi]
  rw [this]
  apply List.ext_getElem (by simp)
  intro j h1 h2
  simp [ofF_zero]
/-- one number is put into a matrix -/
def updF (A : Nat → Nat → F) (i j : Nat) (v : F) (p q : Nat) : F := if p = i ∧ q = j then v else A p q
theorem set_mkF {n m : Nat} {A : Nat → Nat → F} {i j : Nat} (hi : i < n) (hj : j < m) (v : F) : (mkF n m A).set i ((rw_ (mkF n m A) i).set j (ofF v)) = mkF n m (updF A i j v) := by
  have hl := (rect_mkF n m A).1
  refine ext_cell (rect_set (rect_mkF n m A) (by rw [List.length_set]; exact rect_row (rect_mkF n m A) hi)) (rect_mkF n m _) (isM_set (isM_mkF n m A) (isB_set (rw_B (isM_mkF n m A) i) (ofF_rng v))) (isM_mkF n m _) fun p q hp hq => ?_
  rw [cell_mkF hp hq]
  unfold cell updF
  rw [rw_set (by rw [hl]; exact hi)]
  by_cases e : p = i
  · subst e
    rw [if_pos rfl, rd_set (by rw [rect_row (rect_mkF n m A) hp]; exact hj)]
    by_cases e2 : q = j
    · rw [if_pos e2, if_pos ⟨rfl, e2⟩, toF_ofF]
    · rw [if_neg e2, if_neg (fun z => e2 z.2), rd_mkF hp hq, toF_ofF]
  · rw [if_neg e, if_neg (fun z => e z.1), rd_mkF hp hq, toF_ofF]
theorem row_len {n m : Nat} (A : Nat → Nat → F) {i : Nat} (hi : i < n) : (rd_L1 (mkF n m A) (i : Int)).length = m := rect_row (rect_mkF n m A) hi
def cauA (k i j : Nat) (p q : Nat) : F := if p < i ∨ (p = i ∧ q < j) then cau k p q else 0
theorem rcau_l1 {kk r : Nat} (h2 : kk ≤ 12) (h4 : r ≤ 4) {i : Nat} (hi : i < r) : ∀ (d k j : Nat), 400 ≤ k → j + d = kk →
    twoslotref03_Cauchy.l1 (k + d + 1) (kk : Int) (r : Int) (mkF r kk (cauA kk i j)) (i : Int) (j : Int) = twoslotref03_Cauchy.l0 k (kk : Int) (r : Int) (mkF r kk (cauA kk (i + 1) 0)) ((i + 1 : Nat) : Int) := by
  intro d
  induction d with
  | zero =>
    intro k j hk hj
    obtain rfl : j = kk := by omega
    rw [twoslotref03_Cauchy.l1, if_neg (by omega), w64 (by omega)]
    congr 1
    refine mkF_congr fun u v hu hv => ?_
    unfold cauA
    by_cases e1 : u < i ∨ (u = i ∧ v < j)
    · rw [if_pos e1, if_pos (by omega)]
    · rw [if_neg e1, if_neg (by omega)]
  | succ d ih =>
    intro k j hk hj
    rw [← ih k (j + 1) hk (by omega), show k + (d + 1) + 1 = (k + d + 1) + 1 by omega]
    conv => lhs; rw [twoslotref03_Cauchy.l1]
    have e1 : (wrap64 ((kk : Int) + (i : Int))) % 256 = ((kk + i : Nat) : Int) := by unfold wrap64; omega
    have e2 : (j : Int) % 256 = (j : Int) := by omega
    rw [if_pos (by omega), if_pos (by omega), (rect_mkF _ _ _).1, if_pos (by omega), e1, e2, xor_v (by omega) (by omega), rinv_v (by omega) (ofF_rng _), Option.bind_some]
    dsimp only
    rw [if_pos (by omega), row_len _ hi, if_pos (by omega), rdL, Int.toNat_natCast, Int.toNat_natCast, toF_ofF, set_mkF hi (by omega), w64 (by omega)]
    congr 1
    refine mkF_congr fun u v hu hv => ?_
    unfold updF cauA
    by_cases e : u = i ∧ v = j
    · obtain ⟨rfl, rfl⟩ := e
      rw [if_pos ⟨rfl, rfl⟩, if_pos (by omega)]
      rfl
    · rw [if_neg e]
      by_cases e3 : u < i ∨ (u = i ∧ v < j)
      · rw [if_pos e3, if_pos (by omega)]
      · rw [if_neg e3, if_neg (by omega)]
theorem rcau_l0 {kk r : Nat} (h2 : kk ≤ 12) (h4 : r ≤ 4) : ∀ (d k i : Nat), 400 ≤ k → i + d = r →
    twoslotref03_Cauchy.l0 (k + d * (kk + 2) + 1) (kk : Int) (r : Int) (mkF r kk (cauA kk i 0)) (i : Int) = some (mkF r kk (cau kk), 0) := by
  intro d
  induction d with
  | zero =>
    intro k i hk hi
    obtain rfl : i = r := by omega
    rw [Nat.zero_mul, Nat.add_zero, twoslotref03_Cauchy.l0, if_neg (by omega)]
    congr 2
    exact mkF_congr fun u v hu hv => if_pos (.inl hu)
  | succ d ih =>
    intro k i hk hi
    rw [← ih k (i + 1) hk (by omega), ← rcau_l1 h2 h4 (i := i) (by omega) kk (k + d * (kk + 2) + 1) 0 (by omega) (by omega), show k + (d + 1) * (kk + 2) + 1 = (k + d * (kk + 2) + 1 + kk + 1) + 1 by rw [Nat.succ_mul]; omega, twoslotref03_Cauchy.l0, if_pos (by omega)]
    rfl
theorem rcau_f {K k r : Nat} (hK : 1000 ≤ K) (h1 : 1 ≤ k) (h2 : k ≤ 12) (h3 : 1 ≤ r) (h4 : r ≤ 4) : twoslotref03_Cauchy.f K (k : Int) (r : Int) = some (mkF r k (cau k), 0) := by
  obtain ⟨K, rfl⟩ : ∃ q, K = q + 1 := ⟨K - 1, by omega⟩
  unfold twoslotref03_Cauchy.f
  rw [if_neg (by omega), if_neg (by omega), if_neg (by omega), twoslotref03_Cauchy.j0, if_neg (by simp; omega), blank_f (by omega) (by omega) (by omega), Option.bind_some, rep_mkF]
  have hcost : r * (k + 2) ≤ 4 * 14 := Nat.mul_le_mul h4 (by omega)
  obtain ⟨k', rfl⟩ : ∃ k', K = k' + r * (k + 2) + 1 := ⟨K - r * (k + 2) - 1, by omega⟩
  rw [← rcau_l0 h2 h4 r k' 0 (by omega) (by omega)]
  congr 1
  refine mkF_congr fun u v hu hv => ?_
  unfold cauA
  rw [if_neg (by omega)]
end Go.Proofs.Ythhncoogmncdkaa.Pure
namespace Go.Proofs.Ythhncoogmncdkaa.Pure
open Go Go.RowKit Go.TwoGf Go.TwoLin Go.Proofs.Ythhncoogmncdkaa Go.Proofs.Ythhncoogmncdkaa.PC Go.Proofs.YthhncoogmncdkaaW.PrintWords Go.Proofs.YthhncoogmncdkaaW.PrintLast Go.Proofs.YthhncoogmncdkaaW.PrintMore
set_option linter.unusedVariables false
theorem clr_l0 {c : Int} (hc : 0 ≤ c ∧ c < 256) {n : Nat} (hn : n ≤ 1000) {b : List Int} (hbl : b.length = n) (hbb : isB b) : ∀ (d k i : Nat) (x : List Int), x.length = n → i + d = n → d + 30 < k → isB x →
    ∃ r, twoslotref03_cleared.l0 k x b c (i : Int) = some r ∧ r.length = n ∧ isB r ∧ (∀ j, j < i → rd r (j : Int) = rd x (j : Int)) ∧ (∀ j, i ≤ j → toF (rd r (j : Int)) = toF (rd x (j : Int)) + toF c * toF (rd b (j : Int))) := by
  intro d
  induction d with
  | zero =>
    intro k i x hx hi hk hb
    obtain ⟨k, rfl⟩ : ∃ q, k = q + 1 := ⟨k - 1, by omega⟩
    rw [twoslotref03_cleared.l0, if_neg (by omega)]
    refine ⟨x, rfl, hx, hb, fun _ _ => rfl, fun j hj => ?_⟩
    rw [rd_ge (by omega), rd_ge (by omega), toF_zero, mul_zero, add_zero]
  | succ d ih =>
    intro k i x hx hi hk hb
    obtain ⟨k, rfl⟩ : ∃ q, k = q + 1 := ⟨k - 1, by omega⟩
    rw [twoslotref03_cleared.l0, if_pos (by omega), if_pos (by omega), if_pos (by omega), rmul_v (by omega) hc (rd_B hbb i), Option.bind_some, Int.toNat_natCast, w64 (by omega), xor_v (rd_B hb i) (ofF_rng _), toF_ofF]
    obtain ⟨r, h1, h2, h3, h4, h5⟩ := ih k (i + 1) (x.set i (ofF (toF (rd x (i : Int)) + toF c * toF (rd b (i : Int))))) (by simpa using hx) (by omega) (by omega) (isB_set hb (ofF_rng _))
    refine ⟨r, h1, h2, h3, fun j hj => ?_, fun j hj => ?_⟩
    · rw [h4 j (by omega), rd_set (by omega), if_neg (by omega)]
    · by_cases e : j = i
      · subst e
        rw [h4 j (by omega), rd_set (by omega), if_pos rfl, toF_ofF]
      · rw [h5 j (by omega), rd_set (by omega), if_neg e]
theorem clr_v {k : Nat} {a b : List Int} {col : Nat} (hk : 1500 ≤ k) (hl : a.length ≤ 1000) (hab : b.length = a.length) (hcol : col < a.length) (ha : isB a) (hb : isB b) (h0 : rd b (col : Int) ≠ 0) : ∃ r, twoslotref03_cleared.f k a b (col : Int) = some r ∧ r.length = a.length ∧ isB r ∧ ∀ j : Nat, toF (rd r (j : Int)) = toF (rd a (j : Int)) + (toF (rd a (col : Int)) * inv (toF (rd b (col : Int)))) * toF (rd b (j : Int)) := by
  unfold twoslotref03_cleared.f
  rw [if_pos (by omega), if_pos (by omega), if_pos (by omega), rdiv_v (by omega) (rd_B ha col) (rd_B hb col) h0, Option.bind_some]
  dsimp only
  obtain ⟨r, h1, h2, h3, _, h5⟩ := clr_l0 (ofF_rng (toF (rd a (col : Int)) * inv (toF (rd b (col : Int))))) hl hab hb a.length k 0 a rfl (by omega) (by omega) ha
  exact ⟨r, h1, h2, h3, fun j => by rw [h5 j (by omega), toF_ofF]⟩
theorem sfind_spec (M : List (List Int)) (j : Nat) : ∀ d i, (twoslotref03_steps.find M j d i = i + d ∧ ∀ q, i ≤ q → q < i + d → rd (rw_ M q) (j : Int) = 0) ∨ (i ≤ twoslotref03_steps.find M j d i ∧ twoslotref03_steps.find M j d i < i + d ∧ rd (rw_ M (twoslotref03_steps.find M j d i)) (j : Int) ≠ 0)
  | 0, i => .inl ⟨rfl, fun q h1 h2 => by omega⟩
  | d + 1, i => by
    unfold twoslotref03_steps.find
    by_cases h : rd (rw_ M i) (j : Int) = 0
    · rw [if_pos h]
      rcases sfind_spec M j d (i + 1) with ⟨h1, h2⟩ | ⟨h1, h2, h3⟩
      · refine .inl ⟨by omega, fun q hq1 hq2 => ?_⟩
        by_cases e : q = i
        · rw [e]; exact h
        · exact h2 q (by omega) (by omega)
      · exact .inr ⟨by omega, by omega, h3⟩
    · rw [if_neg h]; exact .inr ⟨Nat.le_refl _, by omega, h⟩
theorem sclear_v {k j n n0 m : Nat} (hm : m ≤ 1000) (hj : j < m) (hk : 1500 ≤ k) (hn : n < n0) : ∀ (d i : Nat) (M : List (List Int)), rect n0 m M → isM M → i + d = n0 → cell M n j ≠ 0 →
    ∃ M', twoslotref03_steps.clear k j n d i M = some M' ∧ rect n0 m M' ∧ isM M' ∧ (∀ q, q < n0 → q < i ∨ q = n → rw_ M' q = rw_ M q) ∧
      (∀ q, i ≤ q → q < n0 → q ≠ n → ∀ l, cell M' q l = cell M q l + (cell M q j * inv (cell M n j)) * cell M n l) := by
  intro d
  induction d with
  | zero =>
    intro i M hM bM hi hp
    unfold twoslotref03_steps.clear
    exact ⟨M, rfl, hM, bM, fun _ _ _ => rfl, fun q h1 h2 => by omega⟩
  | succ d ih =>
    intro i M hM bM hi hp
    unfold twoslotref03_steps.clear
    have hil : i < M.length := by rw [hM.1]; omega
    by_cases h : i = n
    · rw [if_pos h]
      obtain ⟨M', h1, h2, h3, h4, h5⟩ := ih (i + 1) M hM bM (by omega) hp
      exact ⟨M', h1, h2, h3, fun q hq hqi => h4 q hq (by omega), fun q h6 h7 h8 l => h5 q (by omega) h7 h8 l⟩
    · rw [if_neg h]
      obtain ⟨r, r1, r2, r3, r4⟩ := clr_v (k := k) (a := rw_ M i) (b := rw_ M n) (col := j) hk (by rw [rect_row hM (by omega)]; omega) (by rw [rect_row hM (by omega), rect_row hM (by omega)]) (by rw [rect_row hM (by omega)]; exact hj) (rw_B bM i) (rw_B bM n) (fun z => hp ((cell_zero bM n j).1 z))
      rw [r1, Option.bind_some]
      have cn : ∀ l, cell (M.set i r) n l = cell M n l := fun l => by unfold cell; rw [rw_set hil, if_neg (fun z => h z.symm)]
      obtain ⟨M', h1, h2, h3, h4, h5⟩ := ih (i + 1) (M.set i r) (rect_set hM (by rw [r2, rect_row hM (by omega)])) (isM_set bM r3) (by omega) (by rw [cn]; exact hp)
      refine ⟨M', h1, h2, h3, fun q hq hqi => ?_, fun q h6 h7 h8 l => ?_⟩
      · have := h4 q hq (by omega)
        rw [rw_set hil, if_neg (by omega)] at this
        exact this
      · by_cases e : q = i
        · subst e
          have := h4 q h7 (by omega)
          rw [rw_set hil, if_pos rfl] at this
          unfold cell
          rw [this, r4]
        · have := h5 q (by omega) h7 h8 l
          have c1 : ∀ l, cell (M.set i r) q l = cell M q l := fun l => by unfold cell; rw [rw_set hil, if_neg e]
          rw [c1, c1, cn, cn] at this
          exact this
theorem Inv_full {n j c : Nat} {piv : Nat → Nat} {X : Nat → Nat → F} (hc : j ≤ c) (h : Inv n j n piv X) : Inv n c n piv X :=
  ⟨h.le, fun a ha => Nat.lt_of_lt_of_le (h.lt a ha) hc, h.up, h.nz, h.off, fun i h1 h2 => by omega⟩
theorem scols_v {k n0 m cols : Nat} (hn0 : n0 ≤ 100) (hm : m ≤ 1000) (hcm : cols ≤ m) (hk : 1500 ≤ k) : ∀ (d j n : Nat) (M : List (List Int)) (piv : Nat → Nat), rect n0 m M → isM M → j + d = cols → Inv n0 j n piv (cell M) →
    ∃ (M' : List (List Int)) (r : Nat) (piv' : Nat → Nat), twoslotref03_steps.cols k d j n M = some (M', r) ∧ rect n0 m M' ∧ isM M' ∧ Inv n0 cols r piv' (cell M') ∧ Eqv n0 (cell M) (cell M') := by
  intro d
  induction d with
  | zero =>
    intro j n M piv hM bM hj hI
    obtain rfl : j = cols := by omega
    exact ⟨M, n, piv, rfl, hM, bM, hI, Eqv_refl _ _⟩
  | succ d ih =>
    intro j n M piv hM bM hj hI
    have hnl := hI.le
    unfold twoslotref03_steps.cols
    by_cases hlt : n < M.length
    case neg =>
      rw [if_neg hlt]
      obtain rfl : n = n0 := by have := hM.1; omega
      exact ⟨M, n, piv, rfl, hM, bM, Inv_full (by omega) hI, Eqv_refl _ _⟩
    rw [if_pos hlt]
    rcases sfind_spec M j (M.length - n) n with ⟨f1, f2⟩ | ⟨f1, f2, f3⟩
    · rw [if_pos (by rw [f1, hM.1]; omega)]
      exact ih (j + 1) n M piv hM bM (by omega) (Inv_skip hI fun i h2 h3 => (cell_zero bM i j).1 (f2 i h2 (by rw [hM.1]; omega)))
    · rw [if_neg (by omega)]
      rw [hM.1] at f1 f2 f3 ⊢
      generalize twoslotref03_steps.find M j (n0 - n) n = a at f1 f2 f3
      have ha : a < n0 := by omega
      have hn : n < n0 := by omega
      have hx : cell M a j ≠ 0 := fun z => f3 ((cell_zero bM a j).2 z)
      obtain ⟨M', q1, q2, q3, q4, q5⟩ := sclear_v (k := k) (j := j) hm (by omega) hk hn n0 0 (swL M a n) (rect_sw hM ha hn) (isM_sw bM a n) (by omega) (by rw [cell_swL hM ha hn, if_pos rfl]; exact hx)
      rw [q1, Option.bind_some]
      have hst : ∀ i l, i < n0 → stp (cell M) n a 1 (fun q => cell M (sw n a q) j * inv (cell M a j)) i l = cell M' i l := fun i l hi => by
        unfold stp
        by_cases e : i = n
        · subst e
          have := q4 i hi (.inr rfl)
          have e1 : cell M' i l = cell (swL M a i) i l := by unfold cell; rw [this]
          rw [if_pos rfl, e1, cell_swL hM ha hn, if_pos rfl, one_mul]
        · rw [if_neg e, q5 i (Nat.zero_le _) hi e l, cell_swL hM ha hn, if_neg e, cell_swL hM ha hn, if_neg e, cell_swL hM ha hn, if_pos rfl, cell_swL hM ha hn, if_pos rfl, one_mul]
      have hd : ∀ i, i < n0 → i ≠ n → stp (cell M) n a 1 (fun q => cell M (sw n a q) j * inv (cell M a j)) i j = 0 := fun i hi hne => by
        unfold stp
        rw [if_neg hne, one_mul, mul_assoc, inv_mul hx, mul_one, add_self]
      have hstep := Inv_step (c := 1) (d := fun q => cell M (sw n a q) j * inv (cell M a j)) hI f1 ha hx one_ne hd
      obtain ⟨M2, r', piv', t1, t2, t3, t4, t5⟩ := ih (j + 1) (n + 1) M' (fun b => if b = n then j else piv b) q2 q3 (by omega) (Inv_congr hst hstep)
      exact ⟨M2, r', piv', t1, t2, t3, t4, Eqv_trans (Eqv_congr hst (Eqv_stp one_ne hn ha _ _)) t5⟩
theorem steps_v {k n0 m cols : Nat} {M : List (List Int)} (hn0 : n0 ≤ 100) (hm : m ≤ 1000) (hcm : cols ≤ m) (hk : 1500 ≤ k) (hM : rect n0 m M) (bM : isM M) :
    ∃ (M' : List (List Int)) (r : Nat) (piv : Nat → Nat), twoslotref03_steps.f k M cols = some (M', r) ∧ rect n0 m M' ∧ isM M' ∧ Inv n0 cols r piv (cell M') ∧ Eqv n0 (cell M) (cell M') :=
  scols_v hn0 hm hcm hk cols 0 0 M (fun a => a) hM bM (by omega) (Inv_start _ _ _)
theorem rinverse_f {k : Nat} (hk : 1500 ≤ k) {a : List (List Int)} (ha : isM a) (ga : good a) (hs : a.length = (rw_ a 0).length) :
    (∃ r : Nat, r < a.length ∧ Rk a.length a.length r (cell a) ∧ twoslotref03_Inverse.f k a = some ([], 5)) ∨
    (∃ V, twoslotref03_Inverse.f k a = some (V, 0) ∧ rect a.length a.length V ∧ isM V ∧ Rk a.length a.length a.length (cell a) ∧ (∀ i j, i < a.length → j < a.length → mm a.length (cell V) (cell a) i j = dl i j)) := by
  have ra := good_rect ga
  rw [← hs] at ra
  have h32 := ga.2.1
  have h01 := ga.1
  have hX : twoslotref03_Inverse.X a = mkF a.length (2 * a.length) (fun i j => if j < a.length then cell a i j else dl i (j - a.length)) := by
    unfold twoslotref03_Inverse.X mkF
    refine List.map_congr_left fun i hi => ?_
    have hi' := List.mem_range.1 hi
    have hri : (rw_ a i).length = a.length := rect_row ra hi'
    unfold twoslotref03_Inverse.xr
    refine ext_rd (by simp [hri]; omega) fun j hj => ?_
    rw [List.length_append, hri, List.length_set, List.length_replicate] at hj
    have er : rd ((List.range (2 * a.length)).map fun j => ofF (if j < a.length then cell a i j else dl i (j - a.length))) (j : Int) = ofF (if j < a.length then cell a i j else dl i (j - a.length)) := by simp [rd, show j < 2 * a.length by omega]
    rw [er]
    by_cases h : j < a.length
    · rw [if_pos h, ← cell_rd ha]
      unfold rd
      rw [Int.toNat_natCast, List.getD_eq_getElem?_getD, List.getD_eq_getElem?_getD, List.getElem?_append_left (by omega)]
    · rw [if_neg h]
      have e0 : rd (rw_ a i ++ (List.replicate a.length (0 : Int)).set i 1) (j : Int) = rd ((List.replicate a.length (0 : Int)).set i 1) ((j - a.length : Nat) : Int) := by
        unfold rd
        rw [Int.toNat_natCast, Int.toNat_natCast, List.getD_eq_getElem?_getD, List.getD_eq_getElem?_getD, List.getElem?_append_right (by omega), hri]
      rw [e0, rd_set (by simpa using hi')]
      unfold dl
      by_cases e : j - a.length = i
      · rw [if_pos e, if_pos e.symm]; rfl
      · rw [if_neg e, if_neg (fun z => e z.symm)]
        simp [rd, show j - a.length < a.length by omega]
        rfl
  obtain ⟨M', r, piv, h1, h2, h3, h4, h5⟩ := steps_v (k := k) (M := mkF a.length (2 * a.length) (fun i j => if j < a.length then cell a i j else dl i (j - a.length))) (cols := a.length) (by omega) (by omega) (by omega) hk (rect_mkF _ _ _) (isM_mkF _ _ _)
  have cl : ∀ i j, i < a.length → j < a.length → cell (mkF a.length (2 * a.length) (fun i j => if j < a.length then cell a i j else dl i (j - a.length))) i j = cell a i j := fun i j hi hj => by rw [cell_mkF hi (by omega), if_pos hj]
  have ch : ∀ i j, i < a.length → j < a.length → cell (mkF a.length (2 * a.length) (fun i j => if j < a.length then cell a i j else dl i (j - a.length))) i (a.length + j) = dl i j := fun i j hi hj => by rw [cell_mkF hi (by omega), if_neg (by omega), Nat.add_sub_cancel_left]
  have hrk : Rk a.length a.length r (cell a) := Rk_congr cl (Inv_rank h4 h5)
  have hf : twoslotref03_Inverse.f k a = if r < a.length then some ([], 5) else (twoslotref03_blank.f k (a.length : Int) (a.length : Int)).bind fun o => if o = List.replicate a.length (List.replicate a.length 0) then (if twoslotref03_Inverse.all k a.length M' then some (twoslotref03_Inverse.M k a.length M', 0) else none) else none := by
    unfold twoslotref03_Inverse.f
    rw [rcheck_f (by omega)]
    unfold ckv
    rw [if_pos ga, Option.bind_some, if_pos rfl, if_pos (show twoslotref03_Inverse.ok a from ⟨by omega, by omega, by omega, by omega, ga.2.2.2.2⟩), if_pos hs, blank_f (by omega) (by omega) (by omega), Option.bind_some, if_pos rfl, hX, h1]
    rfl
  by_cases hlt : r < a.length
  · exact .inl ⟨r, hlt, hrk, by rw [hf, if_pos hlt]⟩
  · right
    obtain rfl : r = a.length := Nat.le_antisymm h4.le (by omega)
    have hinv := Inv_inverse h4 h5 ch
    have hp := piv_id h4.lt h4.up
    have hnz : ∀ i, i < a.length → rd (rw_ M' i) (i : Int) ≠ 0 := fun i hi z => by
      have := h4.nz i hi
      rw [hp i hi] at this
      exact this ((cell_zero h3 i i).1 z)
    have hd : ∀ i j, i < a.length → twoslotref03_Inverse.d k a.length M' i j = some (ofF (cell M' i (a.length + j) * inv (cell M' i i)), 0) := fun i j hi => by
      unfold twoslotref03_Inverse.d
      rw [rdiv_v (by omega) (rd_B (rw_B h3 i) _) (rd_B (rw_B h3 i) _) (hnz i hi)]
      rfl
    have hM : twoslotref03_Inverse.M k a.length M' = mkF a.length a.length (fun i j => inv (cell M' i i) * cell M' i (a.length + j)) := by
      unfold twoslotref03_Inverse.M mkF
      refine List.map_congr_left fun i hi => List.map_congr_left fun j hj => ?_
      unfold twoslotref03_Inverse.G
      rw [hd i j (List.mem_range.1 hi)]
      show ofF (cell M' i (a.length + j) * inv (cell M' i i)) = _
      rw [mul_comm]
    refine ⟨twoslotref03_Inverse.M k a.length M', ?_, by rw [hM]; exact rect_mkF _ _ _, by rw [hM]; exact isM_mkF _ _ _, hrk, fun i j hi hj => ?_⟩
    · rw [hf, if_neg hlt, blank_f (by omega) (by omega) (by omega), Option.bind_some, if_pos rfl, if_pos (show twoslotref03_Inverse.all k a.length M' from fun i hi j hj => by rw [hd i j hi]; rfl)]
    · rw [hM, ← hinv.1 i j hi hj]
      exact mm_congr (fun q hq => cell_mkF hi hq) fun q hq => (cl q j hq hj).symm
end Go.Proofs.Ythhncoogmncdkaa.Pure
