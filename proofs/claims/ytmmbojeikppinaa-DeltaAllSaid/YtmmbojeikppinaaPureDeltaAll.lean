/- DeltaAll, in plain Lean. No condition. -/
import Derived.Test.YtmmbojeikppinaaPEx22
import Derived.Test.YtmmbojeikppinaaPureDeltaCells
namespace Go.Proofs.Ytmmbojeikppinaa.Pure
open Go Go.RowKit Go.TwoGf Go.Proofs.Ytmmbojeikppinaa Go.Proofs.Ytmmbojeikppinaa.PE Go.Proofs.YtmmbojeikppinaaW.PrintWords Go.Proofs.YtmmbojeikppinaaW.PrintLast Go.Proofs.YtmmbojeikppinaaW.PrintMore
set_option linter.unusedVariables false
theorem DeltaAll : twoslotlaw05_DeltaAll.Pure := fun a0 a1 l2 l3 l4 h0 h1 h2 h3 h4 => by
  obtain ⟨K, hK⟩ : ∃ K, 80000 ≤ K := ⟨80000, Nat.le_refl _⟩
  have pB : ∀ b ∈ l2, isB b := fun b hb => isB_wf (h2.2.2 b hb).2.2
  have dB : ∀ b ∈ l4, isB b := fun b hb => isB_wf (h4.2.2 b hb).2.2
  refine ⟨K, alive_f (by omega), ?_⟩
  rcases much_f (K := K) (by omega) l2 with m0 | ⟨m0, m0'⟩
  · exact ⟨true, m0, fun z => by cases z⟩
  refine ⟨false, m0, fun _ => ?_⟩
  rcases much_f (K := K) (by omega) l4 with m1 | ⟨m1, m1'⟩
  · exact ⟨true, m1, fun z => by cases z⟩
  refine ⟨false, m1, fun _ _ => ?_⟩
  have hal : (allv a0 a1 l2 l3 l4).1.length ≤ 60 := by
    unfold allv
    repeat' split
    all_goals first | (simp; done) | (rw [moved_len]; omega) | skip
  exact ⟨(allv a0 a1 l2 l3 l4).1, (allv a0 a1 l2 l3 l4).2, twin_f (by omega) (fun b hb => by have := (h2.2.2 b hb).2.1; omega) (by omega), twin_f (by omega) (fun b hb => by have := (h4.2.2 b hb).2.1; omega) (by omega), all_v (by omega) h0 h1 pB dB, rall_v (by omega) pB dB, sameAll_f (by omega) (by omega), spoil_ok _ _ _ _ _, sameAll_f (by omega) (by omega), sameAll_f (by omega) (by omega)⟩
end Go.Proofs.Ytmmbojeikppinaa.Pure
