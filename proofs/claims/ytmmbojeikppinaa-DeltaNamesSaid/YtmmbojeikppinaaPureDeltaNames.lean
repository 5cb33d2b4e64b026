/- DeltaNames, in plain Lean. No condition. -/
import Derived.Test.YtmmbojeikppinaaPAx10
import Derived.Test.YtmmbojeikppinaaDAlive
namespace Go.Proofs.Ytmmbojeikppinaa.Pure
open Go Go.RowKit Go.TwoGf Go.Proofs.Ytmmbojeikppinaa Go.Proofs.Ytmmbojeikppinaa.PA Go.Proofs.YtmmbojeikppinaaW.PrintWords Go.Proofs.YtmmbojeikppinaaW.PrintLast Go.Proofs.YtmmbojeikppinaaW.PrintMore
set_option linter.unusedVariables false
theorem nm_asked {k r : Int} (h1 : -1000 ≤ k ∧ k ≤ 1000) (h2 : -1000 ≤ r ∧ r ≤ 1000) (p : List (List Int)) : delta_asked.f k r p = some (if okK k r then (if (p.length : Int) = r ∧ Alk (rd_L1 p 0).length p then 0 else 40) else 2) :=
  asked_f (in64_of h1.1 h1.2) (in64_of h2.1 h2.2) p
theorem par_bad {K : Nat} {k r : Int} {p : List (List Int)} {c : Int} {d : List Int} {e : Int} (h : delta_asked.f k r p = some e) (he : e ≠ 0) : delta_Parity.f K k r p c d = some ([], e) := by
  unfold delta_Parity.f
  rw [h]
  simp only [Option.bind_some]
  rw [if_pos he]
theorem par_go {K : Nat} {k r : Int} {p : List (List Int)} {c : Int} {d : List Int} (h : delta_asked.f k r p = some 0) : delta_Parity.f K k r p c d = delta_All.f K k r p [c] [d] := by
  unfold delta_Parity.f
  rw [h]
  simp only [Option.bind_some]
  rw [if_neg (by decide)]
theorem all_cells {K : Nat} {k r : Int} {p : List (List Int)} {cs : List Int} {ds : List (List Int)} (h : delta_asked.f k r p = some 0) (h1 : (cs.length : Int) > k ∨ ¬ delta_All.okc k cs) : delta_All.f K k r p cs ds = some ([], 2) := by
  unfold delta_All.f
  rw [h]
  simp only [Option.bind_some]
  rw [if_neg (by decide)]
  by_cases h2 : (cs.length : Int) > k
  · rw [if_pos h2]
  · rw [if_neg h2, if_neg (h1.resolve_left h2)]
theorem all_unlike {K : Nat} {k r : Int} {p : List (List Int)} {cs : List Int} {ds : List (List Int)} (h : delta_asked.f k r p = some 0) (h1 : ¬ (cs.length : Int) > k) (h2 : delta_All.okc k cs) (h3 : ds.length = cs.length) (h4 : ds.length ≤ 1000 ∧ p.length ≤ 1000) (h5 : ¬ Alk (rd_L1 (ds ++ p) 0).length (ds ++ p)) : delta_All.f K k r p cs ds = some ([], 40) := by
  unfold delta_All.f
  rw [h]
  simp only [Option.bind_some]
  rw [if_neg (by decide), if_neg h1, if_pos h2, if_neg (by simp [h3]), if_pos h4, dalike_f]
  simp only [Option.bind_some]
  rw [if_neg (by simpa using h5)]
theorem names_ok {K : Nat} (hK : 60 ≤ K) {L M : List Int} (hL : L = List.replicate 65536 0) (hM : M = List.replicate 65537 0) : twoslotlaw05_DeltaNames.ok K L M := by
  have lL : L.length = 65536 := by rw [hL, List.length_replicate]
  have lM : M.length = 65537 := by rw [hM, List.length_replicate]
  have bL : isB L := by rw [hL]; exact isB_rep _
  have bM : isB M := by rw [hM]; exact isB_rep _
  have zL : addv L 1 L = L := by
    have := addv_zero bL
    rw [lL, ← hL] at this
    exact this
  have a1 : delta_asked.f 2 1 [[1]] = some 0 := by rw [nm_asked (by decide) (by decide)]; decide
  have a2 : delta_asked.f 2 0 [] = some 0 := by rw [nm_asked (by decide) (by decide)]; decide
  clear hL hM
  refine ⟨alive_f hK, ?_, ?_, ?_, ?_, ?_, ?_, ?_, ?_, ?_, ?_, ?_⟩
  · rw [of_f hK bL, if_pos (by omega), zL]
  · rw [of_f hK bM, if_neg (by omega)]
  · exact par_bad (by rw [nm_asked (by decide) (by decide)]; decide) (by decide)
  · exact par_bad (by rw [nm_asked (by decide) (by decide)]; decide) (by decide)
  · exact par_bad (by rw [nm_asked (by decide) (by decide)]; decide) (by decide)
  · rw [par_go a1]; exact all_cells a1 (.inr (by decide))
  · rw [par_go a1]; exact all_unlike a1 (by decide) (by decide) rfl (by decide) (by decide)
  · refine par_bad (e := 40) ?_ (by decide)
    rw [nm_asked (by decide) (by decide), if_pos (by decide), if_neg]
    rintro ⟨_, h⟩
    have := h M (by simp)
    omega
  · exact all_cells a2 (.inl (by decide))
  · exact all_unlike a2 (by decide) (by decide) rfl (by decide) (by decide)
  · rw [all_ok hK (k := 2) (r := 0) (parity := []) (cells := [0, 1]) (deltas := [[1], [2]]) (n := 1) ⟨by decide, rfl, by decide, by decide, rfl, by decide, by decide⟩ (fun b hb => by cases hb) (fun b hb => by
      have : b = [1] ∨ b = [2] := by simpa using hb
      rcases this with rfl | rfl <;> exact B_of (by decide))]
    rfl
theorem DeltaNames : twoslotlaw05_DeltaNames.Pure := ⟨60, names_ok (Nat.le_refl _) rfl rfl⟩
end Go.Proofs.Ytmmbojeikppinaa.Pure
