/- DeltaCells, in plain Lean. No condition. -/
import Derived.Test.YtmmbojeikppinaaPEx21
import Derived.Test.YtmmbojeikppinaaPEx0
import Derived.Test.YtmmbojeikppinaaMxSpo
import Derived.Test.YtmmbojeikppinaaPEx8
import Derived.Test.YtmmbojeikppinaaDAlive
import Derived.Test.YtmmbojeikppinaaDlt
import Derived.Test.YtmmbojeikppinaaDRefC
import Derived.Test.YtmmbojeikppinaaDSame
import Derived.Test.YtmmbojeikppinaaDRef5
namespace Go.Proofs.Ytmmbojeikppinaa.Pure
open Go Go.RowKit Go.TwoGf Go.Proofs.Ytmmbojeikppinaa Go.Proofs.Ytmmbojeikppinaa.PE Go.Proofs.YtmmbojeikppinaaW.PrintWords Go.Proofs.YtmmbojeikppinaaW.PrintLast Go.Proofs.YtmmbojeikppinaaW.PrintMore
set_option linter.unusedVariables false
theorem spoil_ok (k r : Int) (parity : List (List Int)) (cells : List Int) (deltas : List (List Int)) : twoslotlaw05_spoil.f (allv k r parity cells deltas).1 = some () := by
  have nil : twoslotlaw05_spoil.f [] = some () := if_pos (.inl rfl)
  unfold allv
  by_cases h1 : okK k r
  case neg => rw [if_neg h1]; exact nil
  rw [if_pos h1]
  by_cases h2 : (parity.length : Int) = r ∧ Alk (rd_L1 parity 0).length parity
  case neg => rw [if_neg h2]; exact nil
  rw [if_pos h2]
  by_cases h3 : (cells.length : Int) ≤ k
  case neg => rw [if_neg h3]; exact nil
  rw [if_pos h3]
  by_cases h4 : delta_All.okc k cells
  case neg => rw [if_neg h4]; exact nil
  rw [if_pos h4]
  by_cases h5 : deltas.length = cells.length
  case neg => rw [if_neg h5]; exact nil
  rw [if_pos h5]
  by_cases h6 : Alk (rd_L1 (deltas ++ parity) 0).length (deltas ++ parity)
  case neg => rw [if_neg h6]; exact nil
  rw [if_pos h6]
  obtain ⟨a, b⟩ := app_alk.1 h6
  have hm := moved_alk (k := k) (r := r) (cells := cells) b a
  have hl := moved_len k r cells deltas parity
  by_cases h0 : parity.length = 0
  · have : moved k r cells deltas parity = [] := List.length_eq_zero_iff.1 (by omega)
    rw [this]; exact nil
  have hp : 0 < (moved k r cells deltas parity).length := by omega
  have e : rw_ (moved k r cells deltas parity) 0 = (moved k r cells deltas parity)[0] := rw_lt hp
  have h7 := hm _ (List.getElem_mem hp)
  show twoslotlaw05_spoil.f (moved k r cells deltas parity) = some ()
  refine if_pos (.inr ⟨by have := h1.2.2.2; omega, hp, by rw [e]; omega, by rw [e]; omega, fun x hx => ?_⟩)
  rw [e, (hm x hx).2.2, h7.2.2]
theorem DeltaCells : twoslotlaw05_DeltaCells.Pure := fun a0 a1 l2 a3 l4 l5 h0 h1 h2 h3 h4 h5 => by
  obtain ⟨K, hK⟩ : ∃ K, 80000 ≤ K := ⟨80000, Nat.le_refl _⟩
  have pB : ∀ b ∈ l2, isB b := fun b hb => isB_wf (h2.2.2 b hb).2.2
  have oB := isB_wf h4.2.2
  have nB := isB_wf h5.2.2
  refine ⟨K, alive_f (by omega), ?_⟩
  rcases much_f (K := K) (by omega) l2 with m0 | ⟨m0, m0'⟩
  · exact ⟨true, m0, fun z => by cases z⟩
  refine ⟨false, m0, fun _ => ?_⟩
  rcases much_f (K := K) (by omega) [l4, l5] with m1 | ⟨m1, -⟩
  · exact ⟨true, m1, fun z => by cases z⟩
  refine ⟨false, m1, fun _ => ?_⟩
  have hof := of_f (K := K) (by omega) (a := l4) nB
  have hrof := rof_f (K := K) (by omega) (a := l4) nB
  have hlen : (if 1 ≤ l4.length ∧ l4.length ≤ 65536 ∧ l5.length = l4.length then (addv l4 1 l5, (0 : Int)) else ([], 40)).1.length ≤ 70000 := by
    split
    · rename_i h; rw [addv_len _ (by omega)]; omega
    · simp
  have hal : (allv a0 a1 l2 [a3] [l4]).1.length ≤ 60 := by
    unfold allv
    repeat' split
    all_goals first | (simp; done) | (rw [moved_len]; omega) | skip
  refine ⟨_, _, (allv a0 a1 l2 [a3] [l4]).1, (allv a0 a1 l2 [a3] [l4]).2, twin_f (by omega) (fun b hb => by have := (h2.2.2 b hb).2.1; omega) (by omega), twin_f (by simp) (fun b hb => by
    have h : b = l4 ∨ b = l5 := by simpa using hb
    rcases h with rfl | rfl
    · have := h4.2.1; omega
    · have := h5.2.1; omega) (by simp; omega), hof, par_v (by omega) h0 h1 pB oB, hrof, rpar_v (by omega) pB oB, same_f rfl, sameAll_f (by omega) (by omega), spoil_ok _ _ _ _ _, hlen, sameAll_f (by omega) (by omega), sameAll_f (by simp) (by simp; omega)⟩
end Go.Proofs.Ytmmbojeikppinaa.Pure
