/- KernelDots, in plain Lean: sums of multiples are the reference's, for every input. No condition. -/
import Derived.Test.YtngdkbhpgkmllaaDoorPAx10
import Derived.Test.YtngdkbhpgkmllaaDoorKerR
import Derived.Test.YtngdkbhpgkmllaaDoorKerA
namespace Go.Proofs.YtngdkbhpgkmllaaDoor.Pure
open Go Go.RowKit Go.TwoGf Go.Proofs.YtngdkbhpgkmllaaDoor Go.Proofs.YtngdkbhpgkmllaaDoor.PA Go.Proofs.YtngdkbhpgkmllaaDoorW.PrintWords Go.Proofs.YtngdkbhpgkmllaaDoorW.PrintLast Go.Proofs.YtngdkbhpgkmllaaDoorW.PrintMore
theorem spoil_l0 : ∀ (d k i : Nat) (l : List Int), i + d = l.length → d < k → l.length < 100000 → ∃ z, twoslotlaw02_spoil.l0 k l (i : Int) = some z
  | 0, k, i, l, hi, hk, _ => by
    obtain ⟨k, rfl⟩ : ∃ m, k = m + 1 := ⟨k - 1, by omega⟩
    refine ⟨l, ?_⟩
    simp only [twoslotlaw02_spoil.l0]
    rw [if_neg (by omega)]
  | d + 1, k, i, l, hi, hk, hs => by
    obtain ⟨k, rfl⟩ : ∃ m, k = m + 1 := ⟨k - 1, by omega⟩
    simp only [twoslotlaw02_spoil.l0]
    rw [if_pos (by omega), if_pos (by omega), wrap_s (by omega) (by omega), show (i : Int) + 1 = ((i + 1 : Nat) : Int) by omega]
    exact spoil_l0 d k (i + 1) _ (by simp; omega) (by omega) (by simpa using hs)
theorem spoil_f {k : Nat} {l : List Int} (hk : l.length < k) (hl : l.length < 100000) : ∃ z, twoslotlaw02_spoil.f k l = some z := spoil_l0 l.length k 0 l (by omega) hk hl
theorem dotv_len (c : List Int) (l : List (List Int)) : (dotv c l).1.length ≤ 65536 := by
  unfold dotv
  split
  · rename_i h
    split
    · simp
    · rename_i h4
      have h0 : 0 < l.length := by omega
      have e : rd_L1 l 0 = l[0] := rd_L1_nat (i := 0) h0
      have h5 := (alk_at h0 h.2.2).1
      rw [dacc_len (fun b hb => by rw [List.length_replicate, alk_all h.2.2 b hb]; exact Nat.le_refl _), List.length_replicate, e]
      exact h5
  · simp
theorem dots_end {k : Nat} (hk : 70000 < k) {c : List Int} {l : List (List Int)} (hc : isB c) (hl : ∀ b ∈ l, isB b) (hs : l.length ≤ 60) :
    twoslotlaw02_KernelDots.j2 k c l l c (dotv c l).1 (dotv c l).1 (dotv c l).2 true = some true := by
  obtain ⟨k, rfl⟩ : ∃ m, k = m + 1 := ⟨k - 1, by omega⟩
  obtain ⟨z, hz⟩ := spoil_f (k := k) (l := (dotv c l).1) (by have := dotv_len c l; omega) (by have := dotv_len c l; omega)
  simp only [twoslotlaw02_KernelDots.j2]
  rw [hz, dot_f (by omega) (by omega) hc hl]
  simp only [Option.bind_some, if_true]
  rw [same_f rfl]
  simp only [Option.bind_some, if_true]
  rw [sameAll_f (by omega) (by omega)]
  simp
theorem dots_l0 {c : List Int} {l : List (List Int)} (hc : isB c) (hl : ∀ b ∈ l, isB b) (hs : l.length ≤ 60) (hcs : c.length ≤ 1000) (hb : ∀ b ∈ l, b.length ≤ 140737488351232) :
    ∀ (d k i : Nat), i + d = l.length → d + 80000 < k → twoslotlaw02_KernelDots.l0 k c l (i : Int) = some true
  | 0, k, i, hi, hk => by
    obtain ⟨k, rfl⟩ : ∃ m, k = m + 1 := ⟨k - 1, by omega⟩
    simp only [twoslotlaw02_KernelDots.l0]
    rw [if_neg (by omega), twin_f (by omega) hb (by omega)]
    simp only [Option.bind_some, List.nil_append]
    rw [if_pos (by simp; omega), dot_f (by omega) (by omega) hc hl, rdot_f (by omega) hc hl]
    simp only [Option.bind_some]
    rw [same_f rfl]
    simp only [Option.bind_some, if_true]
    have : ((dotv c l).2 == (dotv c l).2) = true := by simp
    rw [this]
    exact dots_end (by omega) hc hl hs
  | d + 1, k, i, hi, hk => by
    obtain ⟨k, rfl⟩ : ∃ m, k = m + 1 := ⟨k - 1, by omega⟩
    simp only [twoslotlaw02_KernelDots.l0]
    rw [if_pos (by omega), if_pos (by omega)]
    by_cases h : ((rd_L1 l i).length : Int) > 70000
    · rw [if_pos h]
    · rw [if_neg h, wrap_s (by omega) (by omega), show (i : Int) + 1 = ((i + 1 : Nat) : Int) by omega]
      exact dots_l0 hc hl hs hcs hb d k (i + 1) (by omega) (by omega)
theorem KernelDots : twoslotlaw02_KernelDots.Pure := by
  intro c l ⟨_, _, hc0⟩ ⟨_, _, hl0⟩
  have hc := isB_wf hc0
  have hl : ∀ b ∈ l, isB b := fun b hb => isB_wf (hl0 b hb).2.2
  have hb : ∀ b ∈ l, b.length ≤ 140737488351232 := fun b hb => by have := (hl0 b hb).2.1; omega
  obtain ⟨k, hk⟩ : ∃ k, 90000 ≤ k := ⟨90000, Nat.le_refl _⟩
  refine ⟨k, ?_⟩
  unfold twoslotlaw02_KernelDots.f
  rw [alive_f (by omega)]
  simp only [Option.bind_some, if_true]
  obtain ⟨k, rfl⟩ : ∃ m, k = m + 1 := ⟨k - 1, by omega⟩
  by_cases h1 : (c.length : Int) > 1000
  · rw [if_pos h1]; simp [twoslotlaw02_KernelDots.j0]
  · rw [if_neg h1]
    by_cases h2 : (l.length : Int) > 60
    · rw [decide_eq_true h2]; simp [twoslotlaw02_KernelDots.j0]
    · rw [decide_eq_false h2]
      simp only [twoslotlaw02_KernelDots.j0]
      rw [if_neg (by decide)]
      exact dots_l0 hc hl (by omega) (by omega) hb l.length k 0 (by omega) (by omega)
end Go.Proofs.YtngdkbhpgkmllaaDoor.Pure
