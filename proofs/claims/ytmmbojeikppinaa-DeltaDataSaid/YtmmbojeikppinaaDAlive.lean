/- alive and much of layer 5, in plain Lean. No condition. -/
import Derived.Test.YtmmbojeikppinaaPDx9
import Derived.Test.YtmmbojeikppinaaPDx10
import Derived.Test.YtmmbojeikppinaaDlt
namespace Go.Proofs.Ytmmbojeikppinaa.Pure
open Go Go.RowKit Go.TwoGf Go.Proofs.Ytmmbojeikppinaa Go.Proofs.Ytmmbojeikppinaa.PD Go.Proofs.YtmmbojeikppinaaW.PrintWords Go.Proofs.YtmmbojeikppinaaW.PrintLast Go.Proofs.YtmmbojeikppinaaW.PrintMore
set_option linter.unusedVariables false
theorem M21 : codec_Row.M 2 1 = [[1, 0], [0, 1], [142, 244]] := by
  have h0 : matrix_Cauchy.G ((2 : Nat) : Int) 0 0 = 142 := by rw [G_gi (by decide) (by decide) (by decide)]; decide +kernel
  have h1 : matrix_Cauchy.G ((2 : Nat) : Int) 0 1 = 244 := by rw [G_gi (by decide) (by decide) (by decide)]; decide +kernel
  show _ :: _ :: [[matrix_Cauchy.G ((2 : Nat) : Int) 0 0, matrix_Cauchy.G ((2 : Nat) : Int) 0 1]] = _
  rw [h0, h1]; rfl
theorem B_of {l : List Int} (h : (l.all fun x => decide (0 ≤ x) && decide (x < 256)) = true) : isB l := fun x hx => by
  have := List.all_eq_true.1 h x hx
  simpa using this
theorem of_f {K : Nat} (hK : 60 ≤ K) {a b : List Int} (hb : isB b) : delta_Of.f K a b = some (if 1 ≤ a.length ∧ a.length ≤ 65536 ∧ b.length = a.length then (addv a 1 b, 0) else ([], 40)) := by
  unfold delta_Of.f
  rw [dalike_f]
  simp only [Option.bind_some]
  by_cases h : 1 ≤ a.length ∧ a.length ≤ 65536 ∧ b.length = a.length
  · rw [if_pos h, if_pos, xor_f (by omega) hb]
    · unfold plusv; rw [if_pos ⟨by omega, by omega⟩]
    · refine decide_eq_true (fun x hx => ?_)
      show 1 ≤ x.length ∧ x.length ≤ 65536 ∧ x.length = a.length
      simp only [List.mem_cons, List.not_mem_nil, or_false] at hx
      rcases hx with rfl | rfl <;> omega
  · rw [if_neg h, if_neg]
    simp only [decide_eq_true_eq]
    intro z
    have h1 := z a (by simp)
    have h2 := z b (by simp)
    have e : (rd_L1 [a, b] 0).length = a.length := rfl
    rw [e] at h1 h2
    exact h ⟨h1.1, h1.2.1, h2.2.2⟩
theorem alive_ok {K : Nat} (hK : 60 ≤ K) : twoslotlaw05_alive.ok K := by
  have b1 : ∀ {x : Int}, 0 ≤ x ∧ x < 256 → ∀ b ∈ [[x]], isB b := fun hx b hb => by
    rw [List.mem_singleton.1 hb]; intro y hy; rw [List.mem_singleton.1 hy]; exact hx
  have b2 : ∀ b ∈ [[(1 : Int)], [1]], isB b := fun b hb => by
    have : b = [1] := by simpa using hb
    rw [this]; exact B_of (by decide)
  refine ⟨?_, ?_, ?_, ?_, ?_⟩
  · rw [of_f hK (B_of (by decide)), if_pos (by decide)]
    decide +kernel
  · rw [parity_ok hK (k := 2) (r := 1) (parity := [[142]]) (c := 1) (d := [1]) (n := 1) ⟨by decide, rfl, by decide, by decide, rfl, by decide, by decide⟩ (b1 (by decide)) (B_of (by decide))]
    unfold moved co
    rw [show ((2 : Int).toNat) = 2 from rfl, show ((1 : Int).toNat) = 1 from rfl, M21]
    decide +kernel
  · rw [all_ok hK (k := 2) (r := 1) (parity := [[0]]) (cells := [0, 1]) (deltas := [[1], [1]]) (n := 1) ⟨by decide, rfl, by decide, by decide, rfl, by decide, by decide⟩ (b1 (by decide)) b2]
    unfold moved co
    rw [show ((2 : Int).toNat) = 2 from rfl, show ((1 : Int).toNat) = 1 from rfl, M21]
    decide +kernel
  · unfold delta_All.f
    rw [asked_f (in64_of (by decide) (by decide)) (in64_of (by decide) (by decide)), if_pos (by decide), if_pos (by decide)]
    simp only [Option.bind_some]
    rw [if_neg (by decide), if_neg (by decide), if_neg (by decide)]
  · rw [of_f hK isB_nil, if_neg (by decide)]
theorem alive_f {K : Nat} (hK : 60 ≤ K) : twoslotlaw05_alive.f K = some true := by
  unfold twoslotlaw05_alive.f
  rw [if_pos (alive_ok hK)]
theorem much_l0 (l : List (List Int)) (hl : l.length ≤ 60) : ∀ (d k i : Nat), i + d = l.length → d < k → ∃ b, twoslotlaw05_much.l0 k l (i : Int) = some b
  | 0, k, i, hi, hk => by
    obtain ⟨k, rfl⟩ : ∃ m, k = m + 1 := ⟨k - 1, by omega⟩
    exact ⟨false, by simp only [twoslotlaw05_much.l0]; rw [if_neg (by omega)]⟩
  | d + 1, k, i, hi, hk => by
    obtain ⟨k, rfl⟩ : ∃ m, k = m + 1 := ⟨k - 1, by omega⟩
    obtain ⟨b, hb⟩ := much_l0 l hl d k (i + 1) (by omega) (by omega)
    rw [show ((i + 1 : Nat) : Int) = (i : Int) + 1 by omega] at hb
    simp only [twoslotlaw05_much.l0]
    rw [if_pos (by omega), if_pos (by omega), wrap_s (by omega) (by omega), hb]
    by_cases h1 : ((rd_L1 l i).length : Int) > 3000
    · rw [if_pos h1]
      by_cases h2 : ((rd_L1 l i).length : Int) ≤ 65536
      · rw [if_pos h2]; exact ⟨_, rfl⟩
      · rw [if_neg h2]
        by_cases h3 : ((rd_L1 l i).length : Int) > 70000
        · rw [if_pos h3]; exact ⟨_, rfl⟩
        · rw [if_neg h3]; exact ⟨_, rfl⟩
    · rw [if_neg h1]
      by_cases h3 : ((rd_L1 l i).length : Int) > 70000
      · rw [if_pos h3]; exact ⟨_, rfl⟩
      · rw [if_neg h3]; exact ⟨_, rfl⟩
theorem much_f {K : Nat} (hK : 62 ≤ K) (l : List (List Int)) : twoslotlaw05_much.f K l = some true ∨ (twoslotlaw05_much.f K l = some false ∧ l.length ≤ 60) := by
  unfold twoslotlaw05_much.f
  by_cases h : (l.length : Int) > 60
  · rw [if_pos h]; exact .inl rfl
  · rw [if_neg h]
    obtain ⟨b, hb⟩ := much_l0 l (by omega) l.length K 0 (by omega) (by omega)
    rw [show ((0 : Nat) : Int) = 0 from rfl] at hb
    rw [hb]
    cases b
    · exact .inr ⟨rfl, by omega⟩
    · exact .inl rfl
end Go.Proofs.Ytmmbojeikppinaa.Pure
