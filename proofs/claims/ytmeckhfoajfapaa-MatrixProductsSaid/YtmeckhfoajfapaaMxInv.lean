/- What the inverses and quotients of gf and of the document come to, on bytes. No condition. -/
import Derived.Test.YtmeckhfoajfapaaPAx1
import Derived.Test.YtmeckhfoajfapaaPAx1
import Derived.Test.YtmeckhfoajfapaaPAx8
import Derived.Test.YtmeckhfoajfapaaPAx8
import Derived.Test.YtmeckhfoajfapaaGfN
namespace Go.Proofs.Ytmeckhfoajfapaa.Pure
open Go Go.RowKit Go.TwoGf Go.Proofs.Ytmeckhfoajfapaa.PA Go.Proofs.YtmeckhfoajfapaaW.PrintWords Go.Proofs.YtmeckhfoajfapaaW.PrintLast
set_option linter.unusedVariables false
/-! the tables -/
theorem pwI_E : ∀ n, n < 255 → pwI n = (E n : Int)
  | 0, _ => by rw [E_zero]; rfl
  | n + 1, h => by
    have e := E_succ ⟨n, by omega⟩
    have e2 : E (n + 1) = tw (E n) := e
    have t := twice_f (E n) (E_lt n)
    rw [e2]
    show twI (pwI n) = _
    rw [pwI_E n (by omega)]
    exact Option.some.inj t
theorem pcells_at (n i : Nat) (h : i < n) (hn : n ≤ 255) : (pcells n)[i]? = some (.int .u8 (E i)) := by
  induction n with
  | zero => omega
  | succ n ih =>
    by_cases e : n = i
    · subst e; simp [pcells, pcells_size, pwI_E n (by omega), show n < 256 by omega]
    · rw [pcells, Array.getElem?_setIfInBounds_ne (by omega)]; exact ih (by omega) (by omega)
theorem powI_E (n : Nat) (h : n < 255) : powI n = (E n : Int) := by
  unfold powI; rw [pcells_at 255 n h (by omega)]; rfl
theorem wcells_at (n i : Nat) (h : i < n) (hn : n ≤ 255) : (wcells n)[E i]? = some (.int .u8 i) := by
  induction n with
  | zero => omega
  | succ n ih =>
    rw [wcells, pwI_E n (by omega), Int.toNat_natCast]
    by_cases e : n = i
    · subst e; simp [wcells_size, E_lt]
    · have : E n ≠ E i := by
        intro h1
        have := congrArg L h1
        rw [L_E (by omega), L_E (by omega)] at this
        exact e this
      rw [Array.getElem?_setIfInBounds_ne this]; exact ih (by omega) (by omega)
theorem logI_L (a : Nat) (h : a < 256) (h0 : a ≠ 0) : logI a = (L a : Int) := by
  have := wcells_at 255 (L a) (L_lt h h0) (by omega)
  rw [E_L h h0] at this
  unfold logI; rw [this]; rfl
theorem powIx_mod (x n : Int) : powIx x n = (x * n) % 255 := by
  have key : ∀ m : Int, (if Int.tmod m 255 < 0 then Int.tmod m 255 + 255 else Int.tmod m 255) = m % 255 := by
    intro m
    rcases Int.le_total 0 m with h | h
    · rw [Int.tmod_eq_emod_of_nonneg h]; split <;> omega
    · obtain ⟨k, rfl⟩ : ∃ k, m = -k := ⟨-m, by omega⟩
      rw [Int.neg_tmod, Int.tmod_eq_emod_of_nonneg (by omega)]; split <;> omega
  unfold powIx
  rw [key]
  have h2 : Int.tmod n 255 % 255 = n % 255 := by
    have := key n
    split at this <;> omega
  rw [Int.mul_emod, h2, ← Int.mul_emod]
/-- the power, of any whole number; 0 where there is none -/
def gp (a : Nat) (n : Int) : Nat := if n = 0 then 1 else if a = 0 then 0 else E (((L a : Int) * n) % 255).toNat
/-- its error -/
def gpe (a : Nat) (n : Int) : Int := if a = 0 ∧ n < 0 then 10 else 0
theorem pow_f (a : Nat) (n : Int) (h : a < 256) : gf_Pow.f (a : Int) n = some ((gp a n : Int), gpe a n) := by
  unfold gf_Pow.f gp gpe
  by_cases hn : n = 0
  · subst hn; simp
  rw [if_neg hn, if_neg hn]
  by_cases h0 : a = 0
  · subst h0
    by_cases hl : n < 0 <;> simp [hl]
  · rw [if_neg (by omega), if_pos (by omega), if_neg h0, Int.toNat_natCast, logI_L a h h0, powIx_mod, powI_E _ (by omega), if_neg (by omega)]
theorem gp_lt (a : Nat) (n : Int) : gp a n < 256 := by
  unfold gp
  split
  · decide
  · split
    · decide
    · exact E_lt _
theorem gp_inv (a : Nat) (h : a < 256) (h0 : a ≠ 0) : gp a (-1) = gi a := by
  have : ∀ a : Fin 256, a.val ≠ 0 → gp a.val (-1) = gi a.val := by decide +kernel
  exact this ⟨a, h⟩ h0
theorem gi_zero : gi 0 = 0 := rfl
theorem inv_f (a : Nat) (h : a < 256) : gf_Inv.f (a : Int) = some ((gi a : Int), if a = 0 then 10 else 0) := by
  unfold gf_Inv.f
  rw [pow_f a (-1) h]
  simp only [Option.bind_some]
  by_cases h0 : a = 0
  · subst h0; rfl
  · rw [gp_inv a h h0, if_neg h0]; unfold gpe; rw [if_neg (by omega)]
theorem rinv_l0 (a : Nat) (ha : a < 256) : ∀ (d k b : Nat), d + 17 < k → b + d = 256 → 0 < b → (∀ c, 0 < c → c < b → gm a c ≠ 1) → twoslotref01_Inv.l0 k (a : Int) (b : Int) = some ((gi a : Int), if a = 0 then 10 else 0)
  | 0, k, b, hk, hb, h0, hn => by
    obtain ⟨k, rfl⟩ : ∃ m, k = m + 1 := ⟨k - 1, by omega⟩
    simp only [twoslotref01_Inv.l0]
    rw [if_neg (by omega)]
    by_cases e : a = 0
    · subst e; rfl
    · exact absurd (gm_gi ha e) (hn (gi a) (Nat.pos_of_ne_zero (gi_ne ha e)) (by have := gi_lt a; omega))
  | d + 1, k, b, hk, hb, h0, hn => by
    obtain ⟨k, rfl⟩ : ∃ m, k = m + 1 := ⟨k - 1, by omega⟩
    simp only [twoslotref01_Inv.l0]
    rw [if_pos (by omega), show (b : Int) % 256 = (b : Int) by omega, rmul_f k a b (by omega) ha (by omega)]
    simp only [Option.bind_some]
    by_cases e : gm a b = 1
    · have hb2 : b < 256 := by omega
      have e2 := gi_unique ha hb2 e
      have e3 : a ≠ 0 := by rintro rfl; rw [zero_gm] at e; exact absurd e (by decide)
      rw [if_pos (by omega), if_neg e3, ← e2]
    · rw [if_neg (by omega), show wrap64 ((b : Int) + 1) = ((b + 1 : Nat) : Int) by unfold wrap64; omega]
      refine rinv_l0 a ha d k (b + 1) (by omega) (by omega) (by omega) (fun c h1 h2 => ?_)
      by_cases h : c = b
      · subst h; exact e
      · exact hn c h1 (by omega)
theorem rinv_f (k a : Nat) (hk : 300 ≤ k) (ha : a < 256) : twoslotref01_Inv.f k (a : Int) = some ((gi a : Int), if a = 0 then 10 else 0) :=
  rinv_l0 a ha 255 k 1 (by omega) (by omega) (by omega) (fun c h1 h2 => by omega)
theorem rdiv_f (k a b : Nat) (hk : 300 ≤ k) (ha : a < 256) (hb : b < 256) : twoslotref01_Div.f k (a : Int) (b : Int) = some (if b = 0 then (0, 10) else (((gm a (gi b) : Nat) : Int), 0)) := by
  unfold twoslotref01_Div.f
  rw [rinv_f k b hk hb]
  simp only [Option.bind_some]
  by_cases h0 : b = 0
  · subst h0; rfl
  · rw [if_neg h0, if_pos rfl, rmul_f k a (gi b) (by omega) ha (gi_lt b), if_neg h0]; rfl
end Go.Proofs.Ytmeckhfoajfapaa.Pure
