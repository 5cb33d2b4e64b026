/- A list of rows is the same as itself. No condition. -/
import Derived.Test.YtmmbojeikppinaaPDx11
import Derived.Test.YtmmbojeikppinaaDKer
namespace Go.Proofs.Ytmmbojeikppinaa.Pure
open Go Go.RowKit Go.TwoGf Go.Proofs.Ytmmbojeikppinaa Go.Proofs.Ytmmbojeikppinaa.PD Go.Proofs.YtmmbojeikppinaaW.PrintWords Go.Proofs.YtmmbojeikppinaaW.PrintLast Go.Proofs.YtmmbojeikppinaaW.PrintMore
set_option linter.unusedVariables false
theorem sameAll_l0 (l : List (List Int)) (hs : l.length ≤ 100000) : ∀ (d k i : Nat), i + d = l.length → d < k → twoslotref02_SameAll.l0 k l l (i : Int) = some true
  | 0, k, i, hi, hk => by
    obtain ⟨k, rfl⟩ : ∃ m, k = m + 1 := ⟨k - 1, by omega⟩
    obtain rfl : i = l.length := by omega
    simp [twoslotref02_SameAll.l0]
  | d + 1, k, i, hi, hk => by
    obtain ⟨k, rfl⟩ : ∃ m, k = m + 1 := ⟨k - 1, by omega⟩
    have hlt : i < l.length := by omega
    have := sameAll_l0 l hs d k (i + 1) (by omega) (by omega)
    rw [show ((i + 1 : Nat) : Int) = (i : Int) + 1 by omega] at this
    simp only [twoslotref02_SameAll.l0]
    rw [if_pos (by omega), if_pos (by omega), if_pos (by omega), if_pos trivial, wrap_s (by omega) (by omega), this]
theorem sameAll_f {k : Nat} {l : List (List Int)} (hs : l.length ≤ 100000) (hk : l.length < k) : twoslotref02_SameAll.f k l l = some true := by
  unfold twoslotref02_SameAll.f
  rw [if_pos rfl]
  exact sameAll_l0 l hs l.length k 0 (by omega) hk
end Go.Proofs.Ytmmbojeikppinaa.Pure
