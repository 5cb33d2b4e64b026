/- The rows of a code, as bytes: what codec.Row tells, for every numbers. No condition. -/
import Derived.Test.YtmmbojeikppinaaPAx5
import Derived.Test.YtmmbojeikppinaaDInv
import Derived.Test.YtmmbojeikppinaaDKer
namespace Go.Proofs.Ytmmbojeikppinaa.Pure
open Go Go.RowKit Go.TwoGf Go.Proofs.Ytmmbojeikppinaa Go.Proofs.Ytmmbojeikppinaa.PA Go.Proofs.YtmmbojeikppinaaW.PrintWords Go.Proofs.YtmmbojeikppinaaW.PrintLast Go.Proofs.YtmmbojeikppinaaW.PrintMore
set_option linter.unusedVariables false
def isM (M : List (List Int)) : Prop := ∀ r ∈ M, isB r
def rect (n m : Nat) (M : List (List Int)) : Prop := M.length = n ∧ ∀ r ∈ M, r.length = m
theorem rw_lt {M : List (List Int)} {i : Nat} (h : i < M.length) : rw_ M i = M[i] := by simp [rw_, h]
theorem rw_mem {M : List (List Int)} {i : Nat} (h : i < M.length) : rw_ M i ∈ M := by rw [rw_lt h]; exact List.getElem_mem _
theorem rw_ge {M : List (List Int)} {i : Nat} (h : M.length ≤ i) : rw_ M i = [] := by simp [rw_, h]
theorem rw_B {M : List (List Int)} (h : isM M) (i : Nat) : isB (rw_ M i) := by
  by_cases e : i < M.length
  · exact h _ (rw_mem e)
  · rw [rw_ge (by omega)]; exact isB_nil
theorem rect_row {n m : Nat} {M : List (List Int)} (h : rect n m M) {i : Nat} (hi : i < n) : (rw_ M i).length = m := h.2 _ (rw_mem (by rw [h.1]; exact hi))
theorem at_nat (k i j : Nat) (hk : k ≤ 12) (hi : i < 4) (hj : j < 12) : matrix_Cauchy.at_ (k : Int) i j = (((k + i) ^^^ j : Nat) : Int) ∧ (k + i) ^^^ j < 256 := by
  refine ⟨?_, xor_lt (by omega) (by omega)⟩
  unfold matrix_Cauchy.at_
  rw [show (k : Int) + (i : Int) = ((k + i : Nat) : Int) by omega]
  exact u8_xor_nat (k + i) j (by omega) (by omega)
theorem G_val {k i j : Nat} (hk : k ≤ 12) (hi : i < 4) (hj : j < 12) : gf_Inv.f (matrix_Cauchy.at_ (k : Int) i j) = some ((gi ((k + i) ^^^ j) : Int), if (k + i) ^^^ j = 0 then 10 else 0) := by
  obtain ⟨h1, h2⟩ := at_nat k i j hk hi hj
  rw [h1, inv_f _ h2]
theorem G_gi {k i j : Nat} (hk : k ≤ 12) (hi : i < 4) (hj : j < 12) : matrix_Cauchy.G (k : Int) i j = (gi ((k + i) ^^^ j) : Int) := by
  unfold matrix_Cauchy.G
  rw [G_val hk hi hj]; rfl
theorem row_inv {a b : Int} (h1 : 1 ≤ a) (h2 : a ≤ 12) (h4 : b ≤ 4) : codec_Row.inv a b := fun i hi j hj => by
  obtain ⟨k, rfl⟩ : ∃ k : Nat, a = k := ⟨a.toNat, by omega⟩
  rw [G_val (by omega) (by omega) (by omega)]; rfl
theorem oneM_B (k : Nat) : isM (matrix_One.M k) := fun r hr x hx => by
  simp only [matrix_One.M, List.mem_map] at hr
  obtain ⟨i, _, rfl⟩ := hr
  simp only [List.mem_map] at hx
  obtain ⟨j, _, rfl⟩ := hx
  split <;> omega
theorem cauM_B {k r : Nat} (hk : k ≤ 12) (hr : r ≤ 4) : isM (matrix_Cauchy.M k r) := fun y hy x hx => by
  simp only [matrix_Cauchy.M, List.mem_map, List.mem_range] at hy
  obtain ⟨i, hi, rfl⟩ := hy
  simp only [List.mem_map, List.mem_range] at hx
  obtain ⟨j, hj, rfl⟩ := hx
  rw [G_gi hk (by omega) (by omega)]
  have := gi_lt ((k + i) ^^^ j)
  omega
theorem allM_B {k r : Nat} (hk : k ≤ 12) (hr : r ≤ 4) : isM (codec_Row.M k r) := fun y hy => by
  unfold codec_Row.M at hy
  rw [List.mem_append] at hy
  rcases hy with hy | hy
  · exact oneM_B k y hy
  · by_cases e : r = 0
    · rw [if_pos e] at hy; cases hy
    · rw [if_neg e] at hy; exact cauM_B hk hr y hy
theorem allM_rect (k r : Nat) : rect (k + r) k (codec_Row.M k r) := by
  unfold codec_Row.M
  refine ⟨?_, fun y hy => ?_⟩
  · by_cases e : r = 0
    · subst e; simp [matrix_One.M]
    · rw [if_neg e]; simp [matrix_One.M, matrix_Cauchy.M]
  · rw [List.mem_append] at hy
    rcases hy with hy | hy
    · simp only [matrix_One.M, List.mem_map] at hy
      obtain ⟨i, _, rfl⟩ := hy
      simp
    · by_cases e : r = 0
      · rw [if_pos e] at hy; cases hy
      · rw [if_neg e] at hy
        simp only [matrix_Cauchy.M, List.mem_map] at hy
        obtain ⟨i, _, rfl⟩ := hy
        simp
theorem in64_of {a : Int} (h1 : -1000 ≤ a) (h2 : a ≤ 1000) : in64 a := by
  have e1 : IntKind.i64.min = -9223372036854775808 := by decide
  have e2 : IntKind.i64.max = 9223372036854775807 := by decide
  unfold in64 Lit.wf
  simp only [e1, e2, Bool.and_eq_true, decide_eq_true_eq]
  omega
theorem row_f {a b c : Int} (h1 : 1 ≤ a) (h2 : a ≤ 12) (h3 : 0 ≤ b) (h4 : b ≤ 4) (h5 : 0 ≤ c) (h6 : c < a + b) : codec_Row.f a b c = some (rw_ (codec_Row.M a.toNat b.toNat) c.toNat, 0) := by
  unfold codec_Row.f
  rw [if_pos ⟨in64_of (by omega) (by omega), in64_of (by omega) (by omega), in64_of (by omega) (by omega)⟩, if_neg (by unfold codec_Row.bad; omega), if_pos (row_inv h1 h2 h4), if_pos ⟨h5, h6⟩]
theorem row_bad {a b c : Int} (ha : in64 a) (hb : in64 b) (hc : in64 c) (h : ¬ (1 ≤ a ∧ a ≤ 12 ∧ 0 ≤ b ∧ b ≤ 4)) : codec_Row.f a b c = some ([], 2) := by
  unfold codec_Row.f
  rw [if_pos ⟨ha, hb, hc⟩, if_pos (by unfold codec_Row.bad; omega)]
end Go.Proofs.Ytmmbojeikppinaa.Pure
