/- The document's rows of a code: its inverses, Cauchy's rows, Row. No condition. -/
import Derived.Test.YtmmbojeikppinaaPEx15
import Derived.Test.YtmmbojeikppinaaPEx0
import Derived.Test.YtmmbojeikppinaaCdMap
import Derived.Test.YtmmbojeikppinaaMxSpo
import Derived.Test.YtmmbojeikppinaaDSame
import Derived.Test.YtmmbojeikppinaaPEx17
import Derived.Test.YtmmbojeikppinaaPEx16
import Derived.Test.YtmmbojeikppinaaPEx12
import Derived.Test.YtmmbojeikppinaaGF
import Derived.Test.YtmmbojeikppinaaPEx6
import Derived.Test.YtmmbojeikppinaaPEx7
import Derived.Laws.BitsAllLaws
namespace Go.Proofs.Ytmmbojeikppinaa.Pure
open Go Go.RowKit Go.TwoGf Go.Proofs.Ytmmbojeikppinaa.PE Go.Proofs.YtmmbojeikppinaaW.PrintWords Go.Proofs.YtmmbojeikppinaaW.PrintLast
def accN (a b : Nat) : Nat → Nat
  | 0 => 0
  | i + 1 => accN a b i ^^^ (if b.testBit i then a * 2 ^ i else 0)
def stepR (i X : Nat) : Nat := if X.testBit i then X ^^^ (285 * 2 ^ (i - 8)) else X
def redN : Nat → Nat → Nat
  | 0, X => X
  | d + 1, X => redN d (stepR (d + 8) X)
theorem xx (x y c : Nat) : (x ^^^ c) ^^^ (y ^^^ c) = x ^^^ y := by rw [Nat.xor_comm y c, ← Nat.xor_assoc, Nat.xor_assoc x c c, Nat.xor_self, Nat.xor_zero]
theorem stepR_xor (i X Y : Nat) : stepR i (X ^^^ Y) = stepR i X ^^^ stepR i Y := by
  unfold stepR
  rw [Nat.testBit_xor]
  cases X.testBit i <;> cases Y.testBit i
  · simp
  · simp [Nat.xor_assoc]
  · simp only [Bool.xor_false, if_true, Bool.false_eq_true, if_false]; ac_rfl
  · simp only [Bool.xor_true, Bool.not_true, Bool.false_eq_true, if_false, if_true]; exact (xx _ _ _).symm
theorem redN_xor : ∀ d X Y, redN d (X ^^^ Y) = redN d X ^^^ redN d Y
  | 0, _, _ => rfl
  | d + 1, X, Y => by simp only [redN]; rw [stepR_xor, redN_xor d]
theorem redN_zero : ∀ d, redN d 0 = 0
  | 0 => rfl
  | d + 1 => by simp only [redN, stepR]; simp; exact redN_zero d
theorem redN_base : ∀ a : Fin 256, ∀ i : Fin 8, redN 7 (a.val * 2 ^ i.val) = gm a.val (2 ^ i.val) := by decide +kernel
theorem low_bits : ∀ b : Fin 256, ∀ i : Fin 8, b.val % 2 ^ (i.val + 1) = b.val % 2 ^ i.val ^^^ (if b.val.testBit i.val then 2 ^ i.val else 0) := by decide +kernel
theorem redN_acc (a b : Nat) (ha : a < 256) (hb : b < 256) : ∀ i, i ≤ 8 → redN 7 (accN a b i) = gm a (b % 2 ^ i)
  | 0, _ => by simp [accN, redN_zero, Nat.mod_one, gm_zero]
  | i + 1, h => by
    have l := low_bits ⟨b, hb⟩ ⟨i, by omega⟩
    simp only at l
    simp only [accN]
    rw [redN_xor, redN_acc a b ha hb i (by omega), l, gm_xor]
    congr 1
    cases b.testBit i
    · simp [redN_zero, gm_zero]
    · exact redN_base ⟨a, ha⟩ ⟨i, by omega⟩
theorem accN_lt (a b : Nat) (ha : a < 256) : ∀ i, i ≤ 8 → accN a b i < 2 ^ 16
  | 0, _ => by simp [accN]
  | i + 1, h => by
    simp only [accN]
    refine Nat.xor_lt_two_pow (accN_lt a b ha i (by omega)) ?_
    split
    · calc a * 2 ^ i ≤ 255 * 2 ^ i := Nat.mul_le_mul_right _ (by omega)
        _ ≤ 255 * 2 ^ 7 := Nat.mul_le_mul_left _ (Nat.pow_le_pow_right (by decide) (by omega))
        _ < 2 ^ 16 := by decide
    · decide
theorem stepR_lt {i X : Nat} (h : X < 2 ^ 16) (hi : i ≤ 14) : stepR i X < 2 ^ 16 := by
  unfold stepR
  split
  · refine Nat.xor_lt_two_pow h ?_
    calc 285 * 2 ^ (i - 8) ≤ 285 * 2 ^ 6 := Nat.mul_le_mul_left _ (Nat.pow_le_pow_right (by decide) (by omega))
      _ < 2 ^ 16 := by decide
  · exact h
theorem ref_l1 : ∀ (d k X : Nat), d < k → d ≤ 7 → X < 2 ^ 16 → twoslotref01_Mul.l1 k (X : Int) ((d : Int) + 7) = some ((redN d X % 256 : Nat) : Int)
  | 0, k, X, hk, _, hX => by
    obtain ⟨k, rfl⟩ : ∃ m, k = m + 1 := ⟨k - 1, by omega⟩
    simp only [twoslotref01_Mul.l1]
    rw [if_neg (by omega)]
    simp [redN]
  | d + 1, k, X, hk, hd, hX => by
    obtain ⟨k, rfl⟩ : ∃ m, k = m + 1 := ⟨k - 1, by omega⟩
    have w1 : IntKind.u64.wrap (((d + 1 : Nat) : Int) + 7) = ((d + 8 : Nat) : Int) := by
      rw [show (((d + 1 : Nat) : Int) + 7) = ((d + 8 : Nat) : Int) by omega]
      simp [IntKind.wrap, IntKind.bits, IntKind.signed]; omega
    have w2 : wrap64 ((((d + 1 : Nat) : Int) + 7) - 8) = (d : Int) := by unfold wrap64; omega
    have w3 : IntKind.u64.wrap (d : Int) = (d : Int) := by simp [IntKind.wrap, IntKind.bits, IntKind.signed]; omega
    have w4 : wrap64 ((((d + 1 : Nat) : Int) + 7) - 1) = (d : Int) + 7 := by unfold wrap64; omega
    have s1 : shr .u32 (X : Int) ((d + 8 : Nat) : Int) = ((X >>> (d + 8) : Nat) : Int) := by
      rw [← shr_small (k := .u32) rfl (by simp [IntKind.bits]; omega)]
      rw [Int.toNat_natCast, Nat.shiftRight_eq_div_pow]; simp
    have b1 : Go.bits .and .u32 (shr .u32 (X : Int) ((d + 8 : Nat) : Int)) 1 = ((X >>> (d + 8) &&& 1 : Nat) : Int) := by
      rw [s1, show (1 : Int) = ((1 : Nat) : Int) from rfl, u32_and_nat _ 1 ?_ (by decide)]
      calc X >>> (d + 8) ≤ X := Nat.shiftRight_le _ _
        _ < _ := by omega
    have s2 : shl .u32 285 (d : Int) = ((285 * 2 ^ d : Nat) : Int) := by
      rw [← shl_small (k := .u32) rfl (by simp [IntKind.bits]; omega)]
      have h5 : 285 * 2 ^ d < 4294967296 := calc 285 * 2 ^ d ≤ 285 * 2 ^ 6 := Nat.mul_le_mul_left _ (Nat.pow_le_pow_right (by decide) (by omega))
          _ < _ := by decide
      rw [IntKind.wrap_u32', Int.toNat_natCast, show (285 : Int) * 2 ^ d = ((285 * 2 ^ d : Nat) : Int) by simp]
      omega
    simp only [twoslotref01_Mul.l1]
    rw [if_pos (by omega), w1, if_pos (by omega), b1, w2, w3, w4]
    have ht : (X >>> (d + 8) &&& 1 : Nat) = if X.testBit (d + 8) then 1 else 0 := by
      rw [Nat.and_one_is_mod, Nat.testBit_eq_decide_div_mod_eq, Nat.shiftRight_eq_div_pow]
      by_cases e : X / 2 ^ (d + 8) % 2 = 1
      · simp [e]
      · simp [e]; omega
    have hs : stepR (d + 8) X < 2 ^ 16 := stepR_lt hX (by omega)
    rw [ht]
    simp only [redN]
    have ih := ref_l1 d k (stepR (d + 8) X) (by omega) (by omega) hs
    by_cases e : X.testBit (d + 8) = true
    · rw [if_pos (by simp [e]), if_pos (by omega), s2, u32_xor_nat X _ (by omega) ?_]
      · rw [← ih]
        simp only [stepR, e, if_true, Nat.add_sub_cancel]
      · calc 285 * 2 ^ d ≤ 285 * 2 ^ 6 := Nat.mul_le_mul_left _ (Nat.pow_le_pow_right (by decide) (by omega))
          _ < _ := by decide
    · rw [if_neg (by simp [e]), ← ih]
      simp [stepR, e]
theorem redN_acc_lt (a b : Nat) (ha : a < 256) (hb : b < 256) : redN 7 (accN a b 8) % 256 = gm a b := by
  rw [redN_acc a b ha hb 8 (by omega), Nat.mod_eq_of_lt (gm_lt _ _)]
  exact gm_mod_right a b
theorem ref_l0 : ∀ (d k a b i : Nat), d + 8 < k → i + d = 8 → a < 256 → b < 256 → twoslotref01_Mul.l0 k (a : Int) (b : Int) (accN a b i : Int) (i : Int) = some ((gm a b : Nat) : Int)
  | 0, k, a, b, i, hk, hi, ha, hb => by
    obtain ⟨k, rfl⟩ : ∃ m, k = m + 1 := ⟨k - 1, by omega⟩
    obtain rfl : i = 8 := by omega
    simp only [twoslotref01_Mul.l0]
    rw [if_neg (by omega), ← redN_acc_lt a b ha hb]
    exact ref_l1 7 k _ (by omega) (by omega) (accN_lt a b ha 8 (by omega))
  | d + 1, k, a, b, i, hk, hi, ha, hb => by
    obtain ⟨k, rfl⟩ : ∃ m, k = m + 1 := ⟨k - 1, by omega⟩
    have w1 : IntKind.u64.wrap ((i : Int) + 1) = ((i + 1 : Nat) : Int) := by simp [IntKind.wrap, IntKind.bits, IntKind.signed]; omega
    have s1 : shr .u8 (b : Int) (i : Int) = ((b >>> i : Nat) : Int) := by
      rw [← shr_small (k := .u8) rfl (by simp [IntKind.bits]; omega)]
      rw [Int.toNat_natCast, Nat.shiftRight_eq_div_pow]; simp
    have b1 : Go.bits .and .u8 (shr .u8 (b : Int) (i : Int)) 1 = ((b >>> i &&& 1 : Nat) : Int) := by
      rw [s1, show (1 : Int) = ((1 : Nat) : Int) from rfl, u8_and_nat _ 1 ?_ (by decide)]
      calc b >>> i ≤ b := Nat.shiftRight_le _ _
        _ < _ := by omega
    have h5 : a * 2 ^ i < 4294967296 := calc a * 2 ^ i ≤ 255 * 2 ^ i := Nat.mul_le_mul_right _ (by omega)
        _ ≤ 255 * 2 ^ 7 := Nat.mul_le_mul_left _ (Nat.pow_le_pow_right (by decide) (by omega))
        _ < _ := by decide
    have s2 : shl .u32 ((a : Int) % 4294967296) (i : Int) = ((a * 2 ^ i : Nat) : Int) := by
      rw [← shl_small (k := .u32) rfl (by simp [IntKind.bits]; omega)]
      rw [IntKind.wrap_u32', Int.toNat_natCast, show (a : Int) % 4294967296 = (a : Int) by omega, show (a : Int) * 2 ^ i = ((a * 2 ^ i : Nat) : Int) by simp]
      omega
    have hx := accN_lt a b ha i (by omega)
    have ht : (b >>> i &&& 1 : Nat) = if b.testBit i then 1 else 0 := by
      rw [Nat.and_one_is_mod, Nat.testBit_eq_decide_div_mod_eq, Nat.shiftRight_eq_div_pow]
      by_cases e : b / 2 ^ i % 2 = 1
      · simp [e]
      · simp [e]; omega
    simp only [twoslotref01_Mul.l0]
    rw [if_pos (by omega), if_pos (by omega), b1, w1, ht]
    have ih := ref_l0 d k a b (i + 1) (by omega) (by omega) ha hb
    by_cases e : b.testBit i = true
    · rw [if_pos (by simp [e]), s2, u32_xor_nat _ _ (by omega) h5, ← ih]
      simp only [accN, e, if_true]
    · rw [if_neg (by simp [e]), ← ih]
      simp [accN, e]
theorem rmul_f (k a b : Nat) (hk : 17 ≤ k) (ha : a < 256) (hb : b < 256) : twoslotref01_Mul.f k (a : Int) (b : Int) = some ((gm a b : Nat) : Int) := ref_l0 8 k a b 0 (by omega) (by omega) ha hb
end Go.Proofs.Ytmmbojeikppinaa.Pure
namespace Go.Proofs.Ytmmbojeikppinaa.Pure
open Go Go.RowKit Go.TwoGf Go.Proofs.Ytmmbojeikppinaa Go.Proofs.Ytmmbojeikppinaa.PE Go.Proofs.YtmmbojeikppinaaW.PrintWords Go.Proofs.YtmmbojeikppinaaW.PrintLast Go.Proofs.YtmmbojeikppinaaW.PrintMore
set_option linter.unusedVariables false
theorem rmulI_f {k : Nat} (hk : 17 ≤ k) {c x : Int} (hc : 0 ≤ c ∧ c < 256) (hx : 0 ≤ x ∧ x < 256) : twoslotref01_Mul.f k c x = some (mI c x) := by
  obtain ⟨a, ha, rfl⟩ := nat_of hc
  obtain ⟨b, hb, rfl⟩ := nat_of hx
  exact rmul_f k a b hk ha hb
theorem take_set1 {z : List Int} {i : Nat} (v : Int) (h : i < z.length) : (z.set i v).take (i + 1) = z.take i ++ [v] := by
  rw [List.take_succ_eq_append_getElem (by simpa using h), List.getElem_set_self, List.take_set, List.set_eq_of_length_le (by simp; omega)]
theorem rd_set {t : List Int} {i : Nat} (v : Int) (h : i < t.length) (j : Nat) : rd (t.set i v) j = if j = i then v else rd t j := by
  unfold rd
  simp only [Int.toNat_natCast, List.getD_eq_getElem?_getD, List.getElem?_set]
  by_cases e : j = i
  · subst e; simp [h]
  · rw [if_neg e, if_neg (fun h => e h.symm)]
theorem addv_at {a b : List Int} (c : Int) {i : Nat} (h : i < a.length) (hl : a.length ≤ b.length) : (addv a c b).take (i + 1) = (addv a c b).take i ++ [aI (rd a i) (mI c (rd b i))] := by
  rw [List.take_succ_eq_append_getElem (by rw [addv_len c hl]; exact h)]
  congr 2
  unfold addv
  rw [List.getElem_zipWith, rd_nat h, rd_nat (by omega)]
theorem radd_l1 {a b t : List Int} {c : Int} (hb : isB b) (hl : a.length ≤ b.length) (hs : a.length ≤ 200000) (ht : t.length = 256) (hT : ∀ j : Nat, j < 256 → rd t j = mI c j) :
    ∀ (d k i : Nat) (z : List Int), i + d = a.length → d < k → z.length = a.length → z.take i = (addv a c b).take i → twoslotref02_Add.l1 k a b t z (i : Int) = some (addv a c b)
  | 0, k, i, z, hi, hk, hz, h => by
    obtain ⟨k, rfl⟩ : ∃ m, k = m + 1 := ⟨k - 1, by omega⟩
    obtain rfl : i = a.length := by omega
    simp only [twoslotref02_Add.l1]
    rw [if_neg (by omega)]
    rw [List.take_of_length_le (by omega), List.take_of_length_le (by rw [addv_len c hl]; exact Nat.le_refl _)] at h
    rw [h]
  | d + 1, k, i, z, hi, hk, hz, h => by
    obtain ⟨k, rfl⟩ : ∃ m, k = m + 1 := ⟨k - 1, by omega⟩
    have hlt : i < a.length := by omega
    have hr := isB_rd hb (i : Int)
    have ev : Go.bits .xor .u8 (rd a i) (rd t (rd b i)) = aI (rd a i) (mI c (rd b i)) := by
      have := hT (rd b i).toNat (by omega)
      rw [Int.toNat_of_nonneg hr.1] at this
      rw [this]; rfl
    simp only [twoslotref02_Add.l1]
    rw [if_pos (by omega), if_pos (by omega), if_pos (by omega), if_pos hr.1, if_pos (by omega), if_pos (by omega), wrap_s (by omega) (by omega), ev, Int.toNat_natCast]
    have := radd_l1 hb hl hs ht hT d k (i + 1) (z.set i (aI (rd a i) (mI c (rd b i)))) (by omega) (by omega) (by simpa using hz) (by rw [take_set1 _ (by omega), h, addv_at c hlt hl])
    rw [show ((i + 1 : Nat) : Int) = (i : Int) + 1 by omega] at this
    exact this
theorem radd_l0 {a b : List Int} {c : Int} (hc : 0 ≤ c ∧ c < 256) (hb : isB b) (hl : a.length ≤ b.length) (hs : a.length ≤ 200000) :
    ∀ (d k i : Nat) (t : List Int), i + d = 256 → d + a.length + 30 < k → t.length = 256 → (∀ j : Nat, j < i → rd t j = mI c j) → twoslotref02_Add.l0 k a c b t (i : Int) = some (addv a c b)
  | 0, k, i, t, hi, hk, ht, h => by
    obtain ⟨k, rfl⟩ : ∃ m, k = m + 1 := ⟨k - 1, by omega⟩
    obtain rfl : i = 256 := by omega
    simp only [twoslotref02_Add.l0]
    rw [if_neg (by omega), if_pos (by omega), if_pos (by omega), Int.toNat_natCast]
    exact radd_l1 hb hl hs ht h a.length k 0 _ (by omega) (by omega) (by simp) (by simp)
  | d + 1, k, i, t, hi, hk, ht, h => by
    obtain ⟨k, rfl⟩ : ∃ m, k = m + 1 := ⟨k - 1, by omega⟩
    simp only [twoslotref02_Add.l0]
    rw [if_pos (by omega), Int.emod_eq_of_lt (by omega) (by omega), rmulI_f (by omega) hc ⟨by omega, by omega⟩]
    simp only [Option.bind_some]
    rw [if_pos (by omega), if_pos (by omega), wrap_s (by omega) (by omega), Int.toNat_natCast]
    have := radd_l0 hc hb hl hs d k (i + 1) (t.set i (mI c i)) (by omega) (by omega) (by simpa using ht) (fun j hj => by
      rw [rd_set _ (by omega)]
      by_cases e : j = i
      · rw [if_pos e, e]
      · rw [if_neg e, h j (by omega)])
    rw [show ((i + 1 : Nat) : Int) = (i : Int) + 1 by omega] at this
    exact this
theorem radd_f {k : Nat} {a b : List Int} {c : Int} (hk : a.length + 300 < k) (hc : 0 ≤ c ∧ c < 256) (hb : isB b) (hl : a.length ≤ b.length) (hs : a.length ≤ 200000) : twoslotref02_Add.f k a c b = some (addv a c b) := by
  unfold twoslotref02_Add.f
  rw [if_pos (by omega)]
  exact radd_l0 hc hb hl hs 256 k 0 _ (by omega) (by omega) List.length_replicate (fun j hj => by omega)
theorem same_f {a b : List Int} (h : a = b) : twoslotref02_Same.f a b = some true := by
  subst h
  unfold twoslotref02_Same.f
  simp
theorem twin_l0 (l : List (List Int)) (hs : l.length ≤ 100000) (hb : ∀ b ∈ l, b.length ≤ 140737488351232) : ∀ (d k i : Nat), i + d = l.length → d < k → twoslotref02_Twin.l0 k l (l.take i) (i : Int) = some l
  | 0, k, i, hi, hk => by
    obtain ⟨k, rfl⟩ : ∃ m, k = m + 1 := ⟨k - 1, by omega⟩
    obtain rfl : i = l.length := by omega
    simp [twoslotref02_Twin.l0]
  | d + 1, k, i, hi, hk => by
    obtain ⟨k, rfl⟩ : ∃ m, k = m + 1 := ⟨k - 1, by omega⟩
    have hlt : i < l.length := by omega
    have := hb l[i] (List.getElem_mem _)
    simp only [twoslotref02_Twin.l0]
    rw [if_pos (by omega), if_pos (by omega), rd_L1_nat hlt, if_pos (by simp; omega), if_pos (by simp; omega), wrap_s (by omega) (by omega), List.nil_append]
    have := twin_l0 l hs hb d k (i + 1) (by omega) (by omega)
    rw [show ((i + 1 : Nat) : Int) = (i : Int) + 1 by omega, List.take_succ_eq_append_getElem hlt] at this
    exact this
theorem twin_f {k : Nat} {l : List (List Int)} (hs : l.length ≤ 100000) (hb : ∀ b ∈ l, b.length ≤ 140737488351232) (hk : l.length < k) : twoslotref02_Twin.f k l = some l := by
  have := twin_l0 l hs hb l.length k 0 (by omega) hk
  exact this
end Go.Proofs.Ytmmbojeikppinaa.Pure
namespace Go.Proofs.Ytmmbojeikppinaa.Pure
open Go Go.RowKit Go.TwoGf Go.Proofs.Ytmmbojeikppinaa Go.Proofs.Ytmmbojeikppinaa.PE Go.Proofs.YtmmbojeikppinaaW.PrintWords Go.Proofs.YtmmbojeikppinaaW.PrintLast Go.Proofs.YtmmbojeikppinaaW.PrintMore
set_option linter.unusedVariables false
def by8 (x : Int) : Prop := 0 ≤ x ∧ x < 256
theorem aI_right {x : Int} (hx : by8 x) : aI x 0 = x := by rw [aI_comm hx (by decide), aI_zero hx]
theorem addv_addv {c : Int} : ∀ {p z b : List Int}, isB p → isB z → addv p 1 (addv z c b) = addv (addv p 1 z) c b
  | [], _, _, _, _ => by simp [addv]
  | _ :: _, [], _, _, _ => by simp [addv]
  | _ :: _, _ :: _, [], _, _ => by simp [addv]
  | x :: p, y :: z, w :: b, hp, hz => by
    have := addv_addv (c := c) (b := b) (isB_cons hp).2 (isB_cons hz).2
    simp only [addv, List.zipWith_cons_cons] at this ⊢
    rw [this, mI_one (aI_rng (isB_cons hz).1 (mI_rng _ _)), mI_one (isB_cons hz).1, aI_assoc (isB_cons hp).1 (isB_cons hz).1 (mI_rng _ _)]
theorem addv_dacc {p : List Int} (hp : isB p) : ∀ {cs : List Int} {bs : List (List Int)} {z : List Int}, isB z → addv p 1 (dacc z cs bs) = dacc (addv p 1 z) cs bs
  | [], _, _, _ => rfl
  | _ :: _, [], _, _ => rfl
  | d :: cs, e :: bs, z, hz => by
    rw [dacc, dacc, addv_dacc hp (addv_B _ hz), addv_addv hp hz]
theorem addv_zero : ∀ {p : List Int}, isB p → addv p 1 (List.replicate p.length 0) = p
  | [], _ => rfl
  | x :: p, hp => by
    have := addv_zero (isB_cons hp).2
    simp only [addv, List.length_cons, List.replicate_succ, List.zipWith_cons_cons] at this ⊢
    rw [this, mI_one (by decide), aI_right (isB_cons hp).1]
theorem add_sum {p : List Int} (hp : isB p) {n : Nat} (hn : p.length = n) (cs : List Int) (bs : List (List Int)) : addv p 1 (dacc (List.replicate n 0) cs bs) = dacc p cs bs := by
  subst hn
  rw [addv_dacc hp (isB_rep _), addv_zero hp]
/-! rows, each by its own function -/
def upd (f : Nat → List Int → List Int) : List (List Int) → Nat → List (List Int)
  | [], _ => []
  | p :: ps, i => f i p :: upd f ps (i + 1)
theorem upd_len (f : Nat → List Int → List Int) : ∀ ps i, (upd f ps i).length = ps.length
  | [], _ => rfl
  | p :: ps, i => by simp [upd, upd_len f ps (i + 1)]
theorem upd_congr {f g : Nat → List Int → List Int} : ∀ ps i, (∀ j, ∀ p ∈ ps, f j p = g j p) → upd f ps i = upd g ps i
  | [], _, _ => rfl
  | p :: ps, i, h => by
    rw [upd, upd, h i p (by simp), upd_congr ps (i + 1) (fun j q hq => h j q (by simp [hq]))]
theorem upd_all {f : Nat → List Int → List Int} {Q : List Int → Prop} : ∀ ps i, (∀ j, ∀ p ∈ ps, Q (f j p)) → ∀ q ∈ upd f ps i, Q q
  | [], _, _, q, hq => by cases hq
  | p :: ps, i, h, q, hq => by
    rw [upd, List.mem_cons] at hq
    rcases hq with rfl | hq
    · exact h i p (by simp)
    · exact upd_all ps (i + 1) (fun j r hr => h j r (by simp [hr])) q hq
end Go.Proofs.Ytmmbojeikppinaa.Pure
namespace Go.Proofs.Ytmmbojeikppinaa.Pure
open Go Go.RowKit Go.TwoGf Go.Proofs.Ytmmbojeikppinaa Go.Proofs.Ytmmbojeikppinaa.PE Go.Proofs.YtmmbojeikppinaaW.PrintWords Go.Proofs.YtmmbojeikppinaaW.PrintLast Go.Proofs.YtmmbojeikppinaaW.PrintMore
set_option linter.unusedVariables false
def isM (M : List (List Int)) : Prop := ∀ r ∈ M, isB r
def rect (n m : Nat) (M : List (List Int)) : Prop := M.length = n ∧ ∀ r ∈ M, r.length = m
theorem rw_lt {M : List (List Int)} {i : Nat} (h : i < M.length) : rw_ M i = M[i] := by simp [rw_, h]
theorem rw_mem {M : List (List Int)} {i : Nat} (h : i < M.length) : rw_ M i ∈ M := by rw [rw_lt h]; exact List.getElem_mem _
theorem rw_ge {M : List (List Int)} {i : Nat} (h : M.length ≤ i) : rw_ M i = [] := by simp [rw_, h]
theorem rw_B {M : List (List Int)} (h : isM M) (i : Nat) : isB (rw_ M i) := by
  by_cases e : i < M.length
  · exact h _ (rw_mem e)
  · rw [rw_ge (by omega)]; exact isB_nil
theorem rect_row {n m : Nat} {M : List (List Int)} (h : rect n m M) {i : Nat} (hi : i < n) : (rw_ M i).length = m := h.2 _ (rw_mem (by rw [h.1]; exact hi))
theorem at_nat (k i j : Nat) (hk : k ≤ 12) (hi : i < 4) (hj : j < 12) : matrix_Cauchy.at_ (k : Int) i j = (((k + i) ^^^ j : Nat) : Int) ∧ (k + i) ^^^ j < 256 := by
  refine ⟨?_, xor_lt (by omega) (by omega)⟩
  unfold matrix_Cauchy.at_
  rw [show (k : Int) + (i : Int) = ((k + i : Nat) : Int) by omega]
  exact u8_xor_nat (k + i) j (by omega) (by omega)
theorem G_val {k i j : Nat} (hk : k ≤ 12) (hi : i < 4) (hj : j < 12) : gf_Inv.f (matrix_Cauchy.at_ (k : Int) i j) = some ((gi ((k + i) ^^^ j) : Int), if (k + i) ^^^ j = 0 then 10 else 0) := by
  obtain ⟨h1, h2⟩ := at_nat k i j hk hi hj
  rw [h1, inv_f _ h2]
theorem G_gi {k i j : Nat} (hk : k ≤ 12) (hi : i < 4) (hj : j < 12) : matrix_Cauchy.G (k : Int) i j = (gi ((k + i) ^^^ j) : Int) := by
  unfold matrix_Cauchy.G
  rw [G_val hk hi hj]; rfl
theorem row_inv {a b : Int} (h1 : 1 ≤ a) (h2 : a ≤ 12) (h4 : b ≤ 4) : codec_Row.inv a b := fun i hi j hj => by
  obtain ⟨k, rfl⟩ : ∃ k : Nat, a = k := ⟨a.toNat, by omega⟩
  rw [G_val (by omega) (by omega) (by omega)]; rfl
theorem oneM_B (k : Nat) : isM (matrix_One.M k) := fun r hr x hx => by
  simp only [matrix_One.M, List.mem_map] at hr
  obtain ⟨i, _, rfl⟩ := hr
  simp only [List.mem_map] at hx
  obtain ⟨j, _, rfl⟩ := hx
  split <;> omega
theorem cauM_B {k r : Nat} (hk : k ≤ 12) (hr : r ≤ 4) : isM (matrix_Cauchy.M k r) := fun y hy x hx => by
  simp only [matrix_Cauchy.M, List.mem_map, List.mem_range] at hy
  obtain ⟨i, hi, rfl⟩ := hy
  simp only [List.mem_map, List.mem_range] at hx
  obtain ⟨j, hj, rfl⟩ := hx
  rw [G_gi hk (by omega) (by omega)]
  have := gi_lt ((k + i) ^^^ j)
  omega
theorem allM_B {k r : Nat} (hk : k ≤ 12) (hr : r ≤ 4) : isM (codec_Row.M k r) := fun y hy => by
  unfold codec_Row.M at hy
  rw [List.mem_append] at hy
  rcases hy with hy | hy
  · exact oneM_B k y hy
  · by_cases e : r = 0
    · rw [if_pos e] at hy; cases hy
    · rw [if_neg e] at hy; exact cauM_B hk hr y hy
theorem allM_rect (k r : Nat) : rect (k + r) k (codec_Row.M k r) := by
  unfold codec_Row.M
  refine ⟨?_, fun y hy => ?_⟩
  · by_cases e : r = 0
    · subst e; simp [matrix_One.M]
    · rw [if_neg e]; simp [matrix_One.M, matrix_Cauchy.M]
  · rw [List.mem_append] at hy
    rcases hy with hy | hy
    · simp only [matrix_One.M, List.mem_map] at hy
      obtain ⟨i, _, rfl⟩ := hy
      simp
    · by_cases e : r = 0
      · rw [if_pos e] at hy; cases hy
      · rw [if_neg e] at hy
        simp only [matrix_Cauchy.M, List.mem_map] at hy
        obtain ⟨i, _, rfl⟩ := hy
        simp
theorem in64_of {a : Int} (h1 : -1000 ≤ a) (h2 : a ≤ 1000) : in64 a := by
  have e1 : IntKind.i64.min = -9223372036854775808 := by decide
  have e2 : IntKind.i64.max = 9223372036854775807 := by decide
  unfold in64 Lit.wf
  simp only [e1, e2, Bool.and_eq_true, decide_eq_true_eq]
  omega
theorem row_f {a b c : Int} (h1 : 1 ≤ a) (h2 : a ≤ 12) (h3 : 0 ≤ b) (h4 : b ≤ 4) (h5 : 0 ≤ c) (h6 : c < a + b) : codec_Row.f a b c = some (rw_ (codec_Row.M a.toNat b.toNat) c.toNat, 0) := by
  unfold codec_Row.f
  rw [if_pos ⟨in64_of (by omega) (by omega), in64_of (by omega) (by omega), in64_of (by omega) (by omega)⟩, if_neg (by unfold codec_Row.bad; omega), if_pos (row_inv h1 h2 h4), if_pos ⟨h5, h6⟩]
theorem row_bad {a b c : Int} (ha : in64 a) (hb : in64 b) (hc : in64 c) (h : ¬ (1 ≤ a ∧ a ≤ 12 ∧ 0 ≤ b ∧ b ≤ 4)) : codec_Row.f a b c = some ([], 2) := by
  unfold codec_Row.f
  rw [if_pos ⟨ha, hb, hc⟩, if_pos (by unfold codec_Row.bad; omega)]
end Go.Proofs.Ytmmbojeikppinaa.Pure
namespace Go.Proofs.Ytmmbojeikppinaa.Pure
open Go Go.RowKit Go.TwoGf Go.Proofs.Ytmmbojeikppinaa Go.Proofs.Ytmmbojeikppinaa.PE Go.Proofs.YtmmbojeikppinaaW.PrintWords Go.Proofs.YtmmbojeikppinaaW.PrintLast Go.Proofs.YtmmbojeikppinaaW.PrintMore
set_option linter.unusedVariables false
/-- cells that may be, and are alike -/
def Alk (n : Nat) (l : List (List Int)) : Prop := ∀ x ∈ l, 1 ≤ x.length ∧ x.length ≤ 65536 ∧ x.length = n
instance alkDec (n : Nat) (l : List (List Int)) : Decidable (Alk n l) := by unfold Alk; infer_instance
theorem alk_dots {n : Nat} {l : List (List Int)} (h : Alk n l) : alk l = true := by
  unfold alk
  rw [List.all_eq_true]
  intro x hx
  have hx' := h x hx
  have e : (rd_L1 l 0).length = n := by
    cases l with
    | nil => cases hx
    | cons y l => exact (h y (by simp)).2.2
  simp [e, hx'.2.2]
  omega
theorem rd_L1_n {n : Nat} {l : List (List Int)} (h : Alk n l) {i : Nat} (hi : i < l.length) : (rd_L1 l (i : Int)).length = n := by
  rw [rd_L1_nat hi]; exact (h _ (List.getElem_mem _)).2.2
/-- may the code be -/
def okK (k r : Int) : Prop := 1 ≤ k ∧ k ≤ 12 ∧ 0 ≤ r ∧ r ≤ 4
instance okKDec (k r : Int) : Decidable (okK k r) := by unfold okK; infer_instance
end Go.Proofs.Ytmmbojeikppinaa.Pure
namespace Go.Proofs.Ytmmbojeikppinaa.Pure
open Go Go.RowKit Go.TwoGf Go.Proofs.Ytmmbojeikppinaa Go.Proofs.Ytmmbojeikppinaa.PE Go.Proofs.YtmmbojeikppinaaW.PrintWords Go.Proofs.YtmmbojeikppinaaW.PrintLast Go.Proofs.YtmmbojeikppinaaW.PrintMore
set_option linter.unusedVariables false
theorem rinv_l0 (a : Nat) (ha : a < 256) : ∀ (d k b : Nat), d + 17 < k → b + d = 256 → 0 < b → (∀ c, 0 < c → c < b → gm a c ≠ 1) → twoslotref01_Inv.l0 k (a : Int) (b : Int) = some ((gi a : Int), if a = 0 then 10 else 0)
  | 0, k, b, hk, hb, h0, hn => by
    obtain ⟨k, rfl⟩ : ∃ m, k = m + 1 := ⟨k - 1, by omega⟩
    simp only [twoslotref01_Inv.l0]
    rw [if_neg (by omega)]
    by_cases e : a = 0
    · subst e; rfl
    · exact absurd (gm_gi ha e) (hn (gi a) (Nat.pos_of_ne_zero (gi_ne ha e)) (by have := gi_lt a; omega))
  | d + 1, k, b, hk, hb, h0, hn => by
    obtain ⟨k, rfl⟩ : ∃ m, k = m + 1 := ⟨k - 1, by omega⟩
    simp only [twoslotref01_Inv.l0]
    rw [if_pos (by omega), show (b : Int) % 256 = (b : Int) by omega, rmul_f k a b (by omega) ha (by omega)]
    simp only [Option.bind_some]
    by_cases e : gm a b = 1
    · have hb2 : b < 256 := by omega
      have e2 := gi_unique ha hb2 e
      have e3 : a ≠ 0 := by rintro rfl; rw [zero_gm] at e; exact absurd e (by decide)
      rw [if_pos (by omega), if_neg e3, ← e2]
    · rw [if_neg (by omega), show wrap64 ((b : Int) + 1) = ((b + 1 : Nat) : Int) by unfold wrap64; omega]
      refine rinv_l0 a ha d k (b + 1) (by omega) (by omega) (by omega) (fun c h1 h2 => ?_)
      by_cases h : c = b
      · subst h; exact e
      · exact hn c h1 (by omega)
theorem rinv_f (k a : Nat) (hk : 300 ≤ k) (ha : a < 256) : twoslotref01_Inv.f k (a : Int) = some ((gi a : Int), if a = 0 then 10 else 0) :=
  rinv_l0 a ha 255 k 1 (by omega) (by omega) (by omega) (fun c h1 h2 => by omega)
/-- rows from a function -/
def mkI (r k : Nat) (f : Nat → Nat → Int) : List (List Int) := (List.range r).map fun p => (List.range k).map fun q => f p q
theorem mkI_len (r k : Nat) (f : Nat → Nat → Int) : (mkI r k f).length = r := by simp [mkI]
theorem mkI_row {r k : Nat} {f : Nat → Nat → Int} {i : Nat} (h : i < r) : rd_L1 (mkI r k f) (i : Int) = (List.range k).map fun q => f i q := by simp [rd_L1, mkI, h]
theorem mkI_congr {r k : Nat} {f g : Nat → Nat → Int} (h : ∀ p q, p < r → q < k → f p q = g p q) : mkI r k f = mkI r k g := by
  unfold mkI
  refine List.map_congr_left fun p hp => List.map_congr_left fun q hq => ?_
  exact h p q (List.mem_range.1 hp) (List.mem_range.1 hq)
theorem mkI_set {r k : Nat} {f : Nat → Nat → Int} {i j : Nat} (hi : i < r) (hj : j < k) (v : Int) : (mkI r k f).set i (((List.range k).map fun q => f i q).set j v) = mkI r k (fun p q => if p = i ∧ q = j then v else f p q) := by
  apply List.ext_getElem
  · simp [mkI]
  intro p h1 h2
  have hp : p < r := by simpa [mkI] using h2
  rw [List.getElem_set]
  by_cases e : i = p
  · subst e
    rw [if_pos rfl]
    apply List.ext_getElem
    · simp [mkI]
    intro q h3 h4
    rw [List.getElem_set]
    by_cases e2 : j = q
    · subst e2
      simp [mkI]
    · rw [if_neg e2]
      simp [mkI, Ne.symm e2]
  · rw [if_neg e]
    apply List.ext_getElem
    · simp [mkI]
    intro q h3 h4
    simp [mkI, Ne.symm e]
theorem blank_l0 {n m : Nat} (hn : n ≤ 1000) (hm : m ≤ 1000) : ∀ (d k i : Nat), i + d = n → d < k → twoslotref03_blank.l0 k (n : Int) (m : Int) (List.replicate i (List.replicate m 0)) (i : Int) = some (List.replicate n (List.replicate m 0))
  | 0, k, i, hi, hk => by
    obtain ⟨k, rfl⟩ : ∃ q, k = q + 1 := ⟨k - 1, by omega⟩
    obtain rfl : i = n := by omega
    rw [twoslotref03_blank.l0, if_neg (by omega)]
  | d + 1, k, i, hi, hk => by
    obtain ⟨k, rfl⟩ : ∃ q, k = q + 1 := ⟨k - 1, by omega⟩
    have := blank_l0 hn hm d k (i + 1) (by omega) (by omega)
    rw [show ((i + 1 : Nat) : Int) = (i : Int) + 1 by omega] at this
    rw [twoslotref03_blank.l0, if_pos (by omega), if_pos (by omega), if_pos (by omega), if_pos (by rw [List.length_replicate]; omega), wrap_s (by omega) (by omega), Int.toNat_natCast, ← List.replicate_succ', this]
theorem blank_f {k n m : Nat} (hn : n ≤ 1000) (hm : m ≤ 1000) (hk : n < k) : twoslotref03_blank.f k (n : Int) (m : Int) = some (List.replicate n (List.replicate m 0)) :=
  blank_l0 hn hm n k 0 (by omega) hk
theorem rep_mkI (n m : Nat) : List.replicate n (List.replicate m (0 : Int)) = mkI n m (fun _ _ => 0) := by
  unfold mkI
  rw [List.map_const', List.map_const', List.length_range, List.length_range]
/-- how far the rows were made -/
def far (k i j : Nat) (p q : Nat) : Int := if p < i ∨ (p = i ∧ q < j) then matrix_Cauchy.G (k : Int) p q else 0
theorem rc_l1 {k r i : Nat} (hk : k ≤ 12) (hr : r ≤ 4) (hi : i < r) : ∀ (d K j : Nat), j + d = k → d + 400 ≤ K → ∃ K', K ≤ K' + d + 1 ∧ twoslotref03_Cauchy.l1 K (k : Int) (r : Int) (mkI r k (far k i j)) (i : Int) (j : Int) = twoslotref03_Cauchy.l0 K' (k : Int) (r : Int) (mkI r k (far k (i + 1) 0)) ((i + 1 : Nat) : Int)
  | 0, K, j, hj, hK => by
    obtain ⟨K, rfl⟩ : ∃ m, K = m + 1 := ⟨K - 1, by omega⟩
    obtain rfl : j = k := by omega
    refine ⟨K, by omega, ?_⟩
    rw [twoslotref03_Cauchy.l1, if_neg (by omega), wrap_s (by omega) (by omega)]
    rw [show (i : Int) + 1 = ((i + 1 : Nat) : Int) by omega, mkI_congr (f := far j i j) (g := far j (i + 1) 0) (fun p q hp hq => by
      unfold far
      by_cases h : p < i + 1
      · rw [if_pos (by omega), if_pos (by omega)]
      · rw [if_neg (by omega), if_neg (by omega)])]
  | d + 1, K, j, hj, hK => by
    obtain ⟨K, rfl⟩ : ∃ m, K = m + 1 := ⟨K - 1, by omega⟩
    obtain ⟨K', h1, h2⟩ := rc_l1 (k := k) hk hr hi d K (j + 1) (by omega) (by omega)
    refine ⟨K', by omega, ?_⟩
    obtain ⟨e1, e2⟩ := at_nat k i j hk (by omega) (by omega)
    have e3 : Go.bits .xor .u8 ((wrap64 ((k : Int) + (i : Int))) % 256) ((j : Int) % 256) = (((k + i) ^^^ j : Nat) : Int) := by
      rw [show wrap64 ((k : Int) + (i : Int)) = (k : Int) + (i : Int) by unfold wrap64; omega, show ((k : Int) + (i : Int)) % 256 = (k : Int) + (i : Int) by omega, show (j : Int) % 256 = (j : Int) by omega]
      exact e1
    rw [twoslotref03_Cauchy.l1, if_pos (by omega), if_pos (by omega), if_pos (by rw [mkI_len]; omega), e3, rinv_f K _ (by omega) e2]
    simp only [Option.bind_some]
    rw [if_pos (by omega), mkI_row hi, if_pos (by simp; omega), Int.toNat_natCast, Int.toNat_natCast, mkI_set hi (by omega), wrap_s (by omega) (by omega)]
    rw [show (j : Int) + 1 = ((j + 1 : Nat) : Int) by omega, ← h2]
    congr 1
    refine mkI_congr (fun p q hp hq => ?_)
    unfold far
    by_cases h : p = i ∧ q = j
    · rw [if_pos h, if_pos (by omega), h.1, h.2, G_gi hk (by omega) (by omega)]
    · rw [if_neg h]
      by_cases h3 : p < i ∨ (p = i ∧ q < j)
      · rw [if_pos h3, if_pos (by omega)]
      · rw [if_neg h3, if_neg (by omega)]
theorem rc_l0 {k r : Nat} (hk : k ≤ 12) (hr : r ≤ 4) : ∀ (d K i : Nat), i + d = r → 20 * d + 420 ≤ K → twoslotref03_Cauchy.l0 K (k : Int) (r : Int) (mkI r k (far k i 0)) (i : Int) = some (matrix_Cauchy.M k r, 0)
  | 0, K, i, hi, hK => by
    obtain ⟨K, rfl⟩ : ∃ m, K = m + 1 := ⟨K - 1, by omega⟩
    obtain rfl : i = r := by omega
    rw [twoslotref03_Cauchy.l0, if_neg (by omega)]
    congr 2
    exact mkI_congr (g := fun p q => matrix_Cauchy.G (k : Int) p q) (fun p q hp hq => by unfold far; rw [if_pos (by omega)])
  | d + 1, K, i, hi, hK => by
    obtain ⟨K, rfl⟩ : ∃ m, K = m + 1 := ⟨K - 1, by omega⟩
    obtain ⟨K', h1, h2⟩ := rc_l1 (k := k) (r := r) (i := i) hk hr (by omega) k K 0 (by omega) (by omega)
    rw [twoslotref03_Cauchy.l0, if_pos (by omega)]
    rw [show ((0 : Nat) : Int) = 0 from rfl] at h2
    rw [h2]
    exact rc_l0 hk hr d K' (i + 1) (by omega) (by omega)
theorem rcauchy_f {k r K : Nat} (h1 : 1 ≤ k) (h2 : k ≤ 12) (h3 : 1 ≤ r) (h4 : r ≤ 4) (hK : 600 ≤ K) : twoslotref03_Cauchy.f K (k : Int) (r : Int) = some (matrix_Cauchy.M k r, 0) := by
  unfold twoslotref03_Cauchy.f
  rw [if_neg (by omega), if_neg (by omega), if_neg (by omega), decide_eq_false (by omega)]
  obtain ⟨K, rfl⟩ : ∃ m, K = m + 1 := ⟨K - 1, by omega⟩
  rw [twoslotref03_Cauchy.j0, if_neg (by simp), blank_f (by omega) (by omega) (by omega)]
  simp only [Option.bind_some]
  rw [rep_mkI, mkI_congr (f := fun _ _ => 0) (g := far k 0 0) (fun p q _ _ => by unfold far; rw [if_neg (by omega)])]
  exact rc_l0 h2 h4 r K 0 (by omega) (by omega)
theorem high_row {k r i : Nat} (hi : i < r) : rd_L1 (matrix_Cauchy.M k r) (i : Int) = rw_ (codec_Row.M k r) (k + i) := by
  unfold codec_Row.M rw_ rd_L1
  have e : (matrix_One.M k).length = k := by simp [matrix_One.M]
  rw [if_neg (by omega), Int.toNat_natCast, List.getD_eq_getElem?_getD, List.getD_eq_getElem?_getD, List.getElem?_append_right (by omega), e, show k + i - k = i by omega]
/-- the document's row of a parity cell -/
theorem rrow_f {k r : Int} (h : okK k r) {i : Nat} (hi : (i : Int) < r) {K : Nat} (hK : 700 ≤ K) : twoslotref04_Row.f K k r (k + (i : Int)) = some (rw_ (codec_Row.M k.toNat r.toNat) (k.toNat + i), 0) := by
  obtain ⟨h1, h2, h3, h4⟩ := h
  obtain ⟨k, rfl⟩ : ∃ m : Nat, k = m := ⟨k.toNat, by omega⟩
  obtain ⟨r, rfl⟩ : ∃ m : Nat, r = m := ⟨r.toNat, by omega⟩
  unfold twoslotref04_Row.f twoslotref04_may.f
  rw [if_pos (by omega), if_pos (by omega), if_pos (by omega)]
  simp only [Option.bind_some]
  rw [if_pos (by simpa using h4), if_neg (by omega), show wrap64 ((k : Int) + (r : Int)) = (k : Int) + (r : Int) by unfold wrap64; omega, decide_eq_false (by omega)]
  obtain ⟨K, rfl⟩ : ∃ m, K = m + 1 := ⟨K - 1, by omega⟩
  rw [twoslotref04_Row.j0, if_neg (by simp), if_pos (by omega), rcauchy_f (by omega) (by omega) (by omega) (by omega) (by omega)]
  simp only [Option.bind_some]
  rw [show wrap64 ((k : Int) + (i : Int) - (k : Int)) = (i : Int) by unfold wrap64; omega, if_pos (by omega), if_pos (by simp [matrix_Cauchy.M]; omega), high_row (by omega), Int.toNat_natCast, Int.toNat_natCast]
end Go.Proofs.Ytmmbojeikppinaa.Pure
