/- What the inverses and quotients of gf and of the document come to, on bytes. No condition. -/
import Derived.Test.YtmmbojeikppinaaPDx6
import Derived.Test.YtmmbojeikppinaaDKer
namespace Go.Proofs.Ytmmbojeikppinaa.Pure
open Go Go.RowKit Go.TwoGf Go.Proofs.Ytmmbojeikppinaa.PD Go.Proofs.YtmmbojeikppinaaW.PrintWords Go.Proofs.YtmmbojeikppinaaW.PrintLast
set_option linter.unusedVariables false
/-! the tables -/
theorem pwI_E : ∀ n, n < 255 → pwI n = (E n : Int)
  | 0, _ => by rw [E_zero]; rfl
  | n + 1, h => by
    have e := E_succ ⟨n, by omega⟩
    have e2 : E (n + 1) = tw (E n) := e
    have t := twice_f (E n) (E_lt n)
    rw [e2]
    show twI (pwI n) = _
    rw [pwI_E n (by omega)]
    exact Option.some.inj t
theorem pcells_at (n i : Nat) (h : i < n) (hn : n ≤ 255) : (pcells n)[i]? = some (.int .u8 (E i)) := by
  induction n with
  | zero => omega
  | succ n ih =>
    by_cases e : n = i
    · subst e; simp [pcells, pcells_size, pwI_E n (by omega), show n < 256 by omega]
    · rw [pcells, Array.getElem?_setIfInBounds_ne (by omega)]; exact ih (by omega) (by omega)
theorem powI_E (n : Nat) (h : n < 255) : powI n = (E n : Int) := by
  unfold powI; rw [pcells_at 255 n h (by omega)]; rfl
theorem wcells_at (n i : Nat) (h : i < n) (hn : n ≤ 255) : (wcells n)[E i]? = some (.int .u8 i) := by
  induction n with
  | zero => omega
  | succ n ih =>
    rw [wcells, pwI_E n (by omega), Int.toNat_natCast]
    by_cases e : n = i
    · subst e; simp [wcells_size, E_lt]
    · have : E n ≠ E i := by
        intro h1
        have := congrArg L h1
        rw [L_E (by omega), L_E (by omega)] at this
        exact e this
      rw [Array.getElem?_setIfInBounds_ne this]; exact ih (by omega) (by omega)
theorem logI_L (a : Nat) (h : a < 256) (h0 : a ≠ 0) : logI a = (L a : Int) := by
  have := wcells_at 255 (L a) (L_lt h h0) (by omega)
  rw [E_L h h0] at this
  unfold logI; rw [this]; rfl
theorem powIx_mod (x n : Int) : powIx x n = (x * n) % 255 := by
  have key : ∀ m : Int, (if Int.tmod m 255 < 0 then Int.tmod m 255 + 255 else Int.tmod m 255) = m % 255 := by
    intro m
    rcases Int.le_total 0 m with h | h
    · rw [Int.tmod_eq_emod_of_nonneg h]; split <;> omega
    · obtain ⟨k, rfl⟩ : ∃ k, m = -k := ⟨-m, by omega⟩
      rw [Int.neg_tmod, Int.tmod_eq_emod_of_nonneg (by omega)]; split <;> omega
  unfold powIx
  rw [key]
  have h2 : Int.tmod n 255 % 255 = n % 255 := by
    have := key n
    split at this <;> omega
  rw [Int.mul_emod, h2, ← Int.mul_emod]
/-- the power, of any whole number; 0 where there is none -/
def gp (a : Nat) (n : Int) : Nat := if n = 0 then 1 else if a = 0 then 0 else E (((L a : Int) * n) % 255).toNat
/-- its error -/
def gpe (a : Nat) (n : Int) : Int := if a = 0 ∧ n < 0 then 10 else 0
theorem pow_f (a : Nat) (n : Int) (h : a < 256) : gf_Pow.f (a : Int) n = some ((gp a n : Int), gpe a n) := by
  unfold gf_Pow.f gp gpe
  by_cases hn : n = 0
  · subst hn; simp
  rw [if_neg hn, if_neg hn]
  by_cases h0 : a = 0
  · subst h0
    by_cases hl : n < 0 <;> simp [hl]
  · rw [if_neg (by omega), if_pos (by omega), if_neg h0, Int.toNat_natCast, logI_L a h h0, powIx_mod, powI_E _ (by omega), if_neg (by omega)]
theorem gp_lt (a : Nat) (n : Int) : gp a n < 256 := by
  unfold gp
  split
  · decide
  · split
    · decide
    · exact E_lt _
theorem gp_inv (a : Nat) (h : a < 256) (h0 : a ≠ 0) : gp a (-1) = gi a := by
  have : ∀ a : Fin 256, a.val ≠ 0 → gp a.val (-1) = gi a.val := by decide +kernel
  exact this ⟨a, h⟩ h0
theorem gi_zero : gi 0 = 0 := rfl
theorem inv_f (a : Nat) (h : a < 256) : gf_Inv.f (a : Int) = some ((gi a : Int), if a = 0 then 10 else 0) := by
  unfold gf_Inv.f
  rw [pow_f a (-1) h]
  simp only [Option.bind_some]
  by_cases h0 : a = 0
  · subst h0; rfl
  · rw [gp_inv a h h0, if_neg h0]; unfold gpe; rw [if_neg (by omega)]
end Go.Proofs.Ytmmbojeikppinaa.Pure
