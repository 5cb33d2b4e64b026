/- What the printed functions of gf and of the reference of layer 1 come to, on bytes. No condition. -/
import Derived.Test.YtljcenlecofbdaaPAx1
import Derived.Test.YtljcenlecofbdaaPAx2
import Derived.Test.YtljcenlecofbdaaGF
import Derived.Laws.BitsAllLaws
namespace Go.Proofs.Ytljcenlecofbdaa.Pure
open Go Go.RowKit Go.TwoGf Go.Proofs.Ytljcenlecofbdaa.PA Go.Proofs.YtljcenlecofbdaaW.PrintWords Go.Proofs.YtljcenlecofbdaaW.PrintLast
theorem byte_of {a : Int} (h : (Lit.int .u8 a).wf = true) : ∃ n : Nat, n < 256 ∧ a = n := by
  have h1 : 0 ≤ a ∧ a < 256 := by
    have h2 : IntKind.u8.min ≤ a ∧ a ≤ IntKind.u8.max := by simpa [Lit.wf] using h
    have e1 : IntKind.u8.min = 0 := by decide
    have e2 : IntKind.u8.max = 255 := by decide
    omega
  obtain ⟨n, rfl⟩ := Int.eq_ofNat_of_zero_le h1.1
  exact ⟨n, by omega, rfl⟩
theorem twice_f (a : Nat) (h : a < 256) : gf_twice.f (a : Int) = some (tw a : Int) := by
  have : ∀ a : Fin 256, gf_twice.f (a.val : Int) = some ((tw a.val : Nat) : Int) := by decide +kernel
  exact this ⟨a, h⟩
theorem odd_and (a b : Nat) (h : a < 256) (hb : b < 256) : Go.bits .and .u8 (a : Int) ((-(Go.bits .and .u8 (b : Int) 1)) % 256) = ((if b % 2 = 1 then a else 0 : Nat) : Int) := by
  have h1 : Go.bits .and .u8 (b : Int) 1 = ((b % 2 : Nat) : Int) := by
    rw [show (1 : Int) = ((1 : Nat) : Int) from rfl, u8_and_nat b 1 hb (by decide), Nat.and_one_is_mod]
  rw [h1]
  rcases Nat.mod_two_eq_zero_or_one b with e | e
  · rw [e]; show Go.bits .and .u8 (a : Int) ((0 : Nat) : Int) = _
    rw [u8_and_nat a 0 h (by decide)]; simp
  · rw [e]; show Go.bits .and .u8 (a : Int) ((255 : Nat) : Int) = _
    rw [u8_and_nat a 255 h (by decide)]
    have : a &&& 255 = a := by
      rw [show (255 : Nat) = 2 ^ 8 - 1 from rfl, Nat.and_two_pow_sub_one_eq_mod]; exact Nat.mod_eq_of_lt h
    simp [this]
theorem half_two (b : Nat) (hb : b < 256) : b = (if b % 2 = 1 then 1 else 0) ^^^ tw (b / 2) := by
  have : ∀ b : Fin 256, b.val = (if b.val % 2 = 1 then 1 else 0) ^^^ tw (b.val / 2) := by decide +kernel
  exact this ⟨b, hb⟩
theorem gm_half (a b : Nat) (ha : a < 256) (hb : b < 256) : gm a b = (if b % 2 = 1 then a else 0) ^^^ gm (tw a) (b / 2) := by
  have e : gm a b = gm a ((if b % 2 = 1 then 1 else 0) ^^^ tw (b / 2)) := congrArg (gm a) (half_two b hb)
  rw [e, gm_xor, ← gm_two (by omega : b / 2 < 256), gm_left_comm, ← gm_assoc, gm_two ha]
  congr 1
  split
  · exact gm_one ha
  · exact gm_zero a
theorem mul_l0 : ∀ (j k a b c : Nat), j < k → b < 2 ^ j → j ≤ 8 → a < 256 → c < 256 → gf_Mul.l0 k (a : Int) (b : Int) (c : Int) = some ((c ^^^ gm a b : Nat) : Int)
  | 0, k, a, b, c, hk, hb, _, ha, hc => by
    obtain ⟨k, rfl⟩ : ∃ m, k = m + 1 := ⟨k - 1, by omega⟩
    obtain rfl : b = 0 := by omega
    simp [gf_Mul.l0, gm_zero]
  | j + 1, k, a, b, c, hk, hb, hj, ha, hc => by
    obtain ⟨k, rfl⟩ : ∃ m, k = m + 1 := ⟨k - 1, by omega⟩
    by_cases h0 : b = 0
    · subst h0; simp [gf_Mul.l0, gm_zero]
    · have hb256 : b < 256 := Nat.lt_of_lt_of_le hb (Nat.pow_le_pow_right (by decide) hj)
      simp only [gf_Mul.l0]
      rw [if_neg (by omega), twice_f a ha]
      simp only [Option.bind_some]
      have hx : (if b % 2 = 1 then a else 0) < 256 := by split <;> omega
      rw [odd_and a b ha hb256, u8_xor_nat c _ hc hx, show (b : Int) / 2 = ((b / 2 : Nat) : Int) by omega]
      rw [mul_l0 j k (tw a) (b / 2) _ (by omega) (by rw [Nat.pow_succ] at hb; omega) (by omega) (tw_lt a) (xor_lt hc hx), gm_half a b ha hb256, Nat.xor_assoc]
theorem mul_f (k a b : Nat) (hk : 9 ≤ k) (ha : a < 256) (hb : b < 256) : gf_Mul.f k (a : Int) (b : Int) = some ((gm a b : Nat) : Int) := by
  have := mul_l0 8 k a b 0 (by omega) hb (by omega) ha (by decide)
  rw [Nat.zero_xor] at this
  exact this
theorem add_f (a b : Nat) (ha : a < 256) (hb : b < 256) : gf_Add.f (a : Int) (b : Int) = some ((a ^^^ b : Nat) : Int) := by
  unfold gf_Add.f; rw [u8_xor_nat a b ha hb]
/-! the tables -/
theorem pwI_E : ∀ n, n < 255 → pwI n = (E n : Int)
  | 0, _ => by rw [E_zero]; rfl
  | n + 1, h => by
    have e := E_succ ⟨n, by omega⟩
    have e2 : E (n + 1) = tw (E n) := e
    have t := twice_f (E n) (E_lt n)
    rw [e2]
    show twI (pwI n) = _
    rw [pwI_E n (by omega)]
    exact Option.some.inj t
theorem pcells_at (n i : Nat) (h : i < n) (hn : n ≤ 255) : (pcells n)[i]? = some (.int .u8 (E i)) := by
  induction n with
  | zero => omega
  | succ n ih =>
    by_cases e : n = i
    · subst e; simp [pcells, pcells_size, pwI_E n (by omega), show n < 256 by omega]
    · rw [pcells, Array.getElem?_setIfInBounds_ne (by omega)]; exact ih (by omega) (by omega)
theorem powI_E (n : Nat) (h : n < 255) : powI n = (E n : Int) := by
  unfold powI; rw [pcells_at 255 n h (by omega)]; rfl
theorem wcells_at (n i : Nat) (h : i < n) (hn : n ≤ 255) : (wcells n)[E i]? = some (.int .u8 i) := by
  induction n with
  | zero => omega
  | succ n ih =>
    rw [wcells, pwI_E n (by omega), Int.toNat_natCast]
    by_cases e : n = i
    · subst e; simp [wcells_size, E_lt]
    · have : E n ≠ E i := by
        intro h1
        have := congrArg L h1
        rw [L_E (by omega), L_E (by omega)] at this
        exact e this
      rw [Array.getElem?_setIfInBounds_ne this]; exact ih (by omega) (by omega)
theorem logI_L (a : Nat) (h : a < 256) (h0 : a ≠ 0) : logI a = (L a : Int) := by
  have := wcells_at 255 (L a) (L_lt h h0) (by omega)
  rw [E_L h h0] at this
  unfold logI; rw [this]; rfl
theorem log_f (a : Nat) (h : a < 256) : gf_Log.f (a : Int) = some (if a = 0 then (0, 10) else ((L a : Int), 0)) := by
  unfold gf_Log.f
  by_cases h0 : a = 0
  · subst h0; rfl
  · rw [if_neg (by omega), if_pos (by omega), if_neg h0, Int.toNat_natCast, logI_L a h h0]
theorem powIx_mod (x n : Int) : powIx x n = (x * n) % 255 := by
  have key : ∀ m : Int, (if Int.tmod m 255 < 0 then Int.tmod m 255 + 255 else Int.tmod m 255) = m % 255 := by
    intro m
    rcases Int.le_total 0 m with h | h
    · rw [Int.tmod_eq_emod_of_nonneg h]; split <;> omega
    · obtain ⟨k, rfl⟩ : ∃ k, m = -k := ⟨-m, by omega⟩
      rw [Int.neg_tmod, Int.tmod_eq_emod_of_nonneg (by omega)]; split <;> omega
  unfold powIx
  rw [key]
  have h2 : Int.tmod n 255 % 255 = n % 255 := by
    have := key n
    split at this <;> omega
  rw [Int.mul_emod, h2, ← Int.mul_emod]
/-- the power, of any whole number; 0 where there is none -/
def gp (a : Nat) (n : Int) : Nat := if n = 0 then 1 else if a = 0 then 0 else E (((L a : Int) * n) % 255).toNat
/-- its error -/
def gpe (a : Nat) (n : Int) : Int := if a = 0 ∧ n < 0 then 10 else 0
theorem pow_f (a : Nat) (n : Int) (h : a < 256) : gf_Pow.f (a : Int) n = some ((gp a n : Int), gpe a n) := by
  unfold gf_Pow.f gp gpe
  by_cases hn : n = 0
  · subst hn; simp
  rw [if_neg hn, if_neg hn]
  by_cases h0 : a = 0
  · subst h0
    by_cases hl : n < 0 <;> simp [hl]
  · rw [if_neg (by omega), if_pos (by omega), if_neg h0, Int.toNat_natCast, logI_L a h h0, powIx_mod, powI_E _ (by omega), if_neg (by omega)]
theorem gp_lt (a : Nat) (n : Int) : gp a n < 256 := by
  unfold gp
  split
  · decide
  · split
    · decide
    · exact E_lt _
theorem exp_f (n : Int) : gf_Exp.f n = some ((E (n % 255).toNat : Nat) : Int) := by
  unfold gf_Exp.f
  rw [show (2 : Int) = ((2 : Nat) : Int) from rfl, pow_f 2 n (by decide)]
  simp only [Option.bind_some]
  congr 2
  unfold gp
  have h2 : L 2 = 1 := by decide +kernel
  by_cases hn : n = 0
  · subst hn; rfl
  · rw [if_neg hn, if_neg (by decide), h2]; simp
theorem gp_inv (a : Nat) (h : a < 256) (h0 : a ≠ 0) : gp a (-1) = gi a := by
  have : ∀ a : Fin 256, a.val ≠ 0 → gp a.val (-1) = gi a.val := by decide +kernel
  exact this ⟨a, h⟩ h0
theorem gi_zero : gi 0 = 0 := rfl
theorem inv_f (a : Nat) (h : a < 256) : gf_Inv.f (a : Int) = some ((gi a : Int), if a = 0 then 10 else 0) := by
  unfold gf_Inv.f
  rw [pow_f a (-1) h]
  simp only [Option.bind_some]
  by_cases h0 : a = 0
  · subst h0; rfl
  · rw [gp_inv a h h0, if_neg h0]; unfold gpe; rw [if_neg (by omega)]
theorem div_f (k a b : Nat) (hk : 9 ≤ k) (ha : a < 256) (hb : b < 256) : gf_Div.f k (a : Int) (b : Int) = some (if b = 0 then (0, 10) else (((gm a (gi b) : Nat) : Int), 0)) := by
  unfold gf_Div.f
  rw [inv_f b hb]
  simp only [Option.bind_some]
  by_cases h0 : b = 0
  · subst h0; rfl
  · rw [if_neg h0, if_pos rfl, mul_f k a (gi b) hk ha (gi_lt b), if_neg h0]; rfl
theorem alive_f (k : Nat) (hk : 10 ≤ k) : twoslotlaw01_alive.f k = some true := by
  obtain ⟨k, rfl⟩ : ∃ m, k = m + 1 := ⟨k - 1, by omega⟩
  have i2 : gf_Inv.f 2 = some (142, 0) := by rw [show (2 : Int) = ((2 : Nat) : Int) from rfl, inv_f 2 (by decide)]; decide +kernel
  have i0 : gf_Inv.f 0 = some (0, 10) := by rw [show (0 : Int) = ((0 : Nat) : Int) from rfl, inv_f 0 (by decide)]; decide +kernel
  have d1 : gf_Div.f (k + 1) 29 128 = some (2, 0) := by rw [show (29 : Int) = ((29 : Nat) : Int) from rfl, show (128 : Int) = ((128 : Nat) : Int) from rfl, div_f _ 29 128 (by omega) (by decide) (by decide)]; decide +kernel
  have p1 : gf_Pow.f 0 0 = some (1, 0) := by rfl
  have p2 : gf_Pow.f 3 (-2) = some (167, 0) := by rw [show (3 : Int) = ((3 : Nat) : Int) from rfl, pow_f 3 _ (by decide)]; decide +kernel
  have p3 : gf_Pow.f 0 (-1) = some (0, 10) := by rfl
  have l1 : gf_Log.f 29 = some (8, 0) := by rw [show (29 : Int) = ((29 : Nat) : Int) from rfl, log_f 29 (by decide)]; decide +kernel
  have l0 : gf_Log.f 0 = some (0, 10) := by rfl
  have a1 : gf_Add.f 5 3 = some 6 := by decide +kernel
  have m1 : gf_Mul.f k 2 128 = some 29 := by rw [show (2 : Int) = ((2 : Nat) : Int) from rfl, show (128 : Int) = ((128 : Nat) : Int) from rfl, mul_f _ 2 128 (by omega) (by decide) (by decide)]; decide +kernel
  have m2 : gf_Mul.f k 3 7 = some 9 := by rw [show (3 : Int) = ((3 : Nat) : Int) from rfl, show (7 : Int) = ((7 : Nat) : Int) from rfl, mul_f _ 3 7 (by omega) (by decide) (by decide)]; decide +kernel
  have e1 : gf_Exp.f 8 = some 29 := by rw [exp_f]; decide +kernel
  have e2 : gf_Exp.f (-1) = some 142 := by rw [exp_f]; decide +kernel
  unfold twoslotlaw01_alive.f
  simp [i2, i0, d1, p1, p2, p3, l1, l0, twoslotlaw01_alive.j0, a1, m1, m2, e1, e2]
end Go.Proofs.Ytljcenlecofbdaa.Pure
