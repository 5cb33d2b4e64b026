/- KernelNames, in plain Lean: slices are taken up to the greatest length, and not beyond. No condition. -/
import Derived.Test.YtngdkbhpgkmllaaDoorPNx8
import Derived.Test.YtngdkbhpgkmllaaDoorKerT
import Derived.Test.YtngdkbhpgkmllaaDoorKerA
namespace Go.Proofs.YtngdkbhpgkmllaaDoor.Pure
open Go Go.RowKit Go.TwoGf Go.Proofs.YtngdkbhpgkmllaaDoor Go.Proofs.YtngdkbhpgkmllaaDoor.PN Go.Proofs.YtngdkbhpgkmllaaDoorW.PrintWords Go.Proofs.YtngdkbhpgkmllaaDoorW.PrintLast Go.Proofs.YtngdkbhpgkmllaaDoorW.PrintMore
theorem dot16 : (dotv (List.replicate 16 0) (List.replicate 16 [])) = ([], 0) := by decide +kernel
theorem dot17 : (dotv (List.replicate 17 0) (List.replicate 17 [])) = ([], 20) := by decide +kernel
theorem pad_bad {l : List Int} {n : Int} (h : (l.length : Int) > 65536 ∨ n < l.length ∨ n > 65536) : kernel_Pad.f l n = some ([], 20) := by
  unfold kernel_Pad.f
  by_cases h1 : (l.length : Int) > 65536
  · rw [if_pos h1]
  rw [if_neg h1]
  by_cases h2 : n < (l.length : Int)
  · rw [if_pos h2]
  rw [if_neg h2, if_pos (by omega)]
theorem pad_ok {n : Nat} (h : n ≤ 65536) : kernel_Pad.f [] (n : Int) = some (List.replicate n 0, 0) := by
  unfold kernel_Pad.f
  rw [if_neg (by simp), if_neg (by simp), if_neg (by omega), Int.toNat_natCast]
  simp
theorem names_end {k : Nat} (hk : 100 < k) {b s p : List Int} (hb : ∀ x ∈ b, x = 0) (hp : ∀ x ∈ p, x = 0) (hpl : p.length = 65536) : twoslotlaw02_KernelNames.j1 k b s p s false = some true := by
  obtain ⟨k, rfl⟩ : ∃ m, k = m + 1 := ⟨k - 1, by omega⟩
  simp only [twoslotlaw02_KernelNames.j1]
  rw [if_neg (by decide), same_f rfl]
  simp only [Option.bind_some, if_true]
  rw [if_pos (by omega), zero_f, zero_f, decide_eq_true hp, decide_eq_true hb]
  rfl
theorem names_l0 {b : List Int} (hbl : b.length = 65537) (hb : ∀ x ∈ b, x = 0) : ∀ (d k i : Nat) (a : List Int), i + d = 65536 → d + 70000 < k → a.length = 65536 → isB a → twoslotlaw02_KernelNames.l0 k a b (i : Int) = some true
  | 0, k, i, a, hi, hk, hal, ha => by
    obtain ⟨k, rfl⟩ : ∃ m, k = m + 1 := ⟨k - 1, by omega⟩
    have hB : isB b := fun x hx => by rw [hb x hx]; omega
    have s1 : scalev 3 a = (addv (List.replicate a.length 0) 3 a, 0) := by unfold scalev; rw [if_pos (by omega)]
    have s2 : scalev 3 b = ([], 20) := by unfold scalev; rw [if_neg (by omega)]
    have s3 : ∀ c, plusv b c b = ([], 20) := fun c => by unfold plusv; rw [if_neg (by omega)]
    have s4 : dotv [1] [b] = ([], 20) := by
      unfold dotv
      rw [if_neg]
      rintro ⟨_, _, h⟩
      rw [alk_one] at h
      have := of_decide_eq_true h
      omega
    have p1 := pad_ok (n := 65536) (Nat.le_refl _)
    have p2 : kernel_Pad.f [] 65537 = some ([], 20) := pad_bad (.inr (.inr (by omega)))
    have p3 : kernel_Pad.f b 65537 = some ([], 20) := pad_bad (.inl (by omega))
    have p4 : kernel_Pad.f [] (-1) = some ([], 20) := pad_bad (.inr (.inl (by simp)))
    have hz : ∀ x ∈ List.replicate 65536 (0 : Int), x = 0 := fun x hx => (List.mem_replicate.1 hx).2
    have hzl : (List.replicate 65536 (0 : Int)).length = 65536 := List.length_replicate
    generalize List.replicate 65536 (0 : Int) = z at p1 hz hzl
    have p1' : kernel_Pad.f [] 65536 = some (z, 0) := p1
    simp only [twoslotlaw02_KernelNames.l0]
    rw [if_neg (by omega), scale_f (by omega) (by decide) ha, s1, scale_f (by omega) (by decide) hB, s2, xor_f (by omega) hB, s3, plus_f (by omega) (by decide) hB, s3, p1', p2, p3, p4]
    simp only [Option.bind_some]
    rw [if_pos (by omega), if_pos (by omega), dot_f (by rw [List.length_replicate]; omega) (by rw [List.length_replicate]; omega) (by decide) (by decide), dot16]
    simp only [Option.bind_some]
    rw [if_pos (by omega), if_pos (by omega), dot_f (by rw [List.length_replicate]; omega) (by rw [List.length_replicate]; omega) (by decide) (by decide), dot17, dot_f (by simp) (by simp; omega) (by decide) (fun x hx => by rw [List.mem_singleton.1 hx]; exact hB), s4, rscale_f (by omega) (by decide) ha, s1]
    simp only [Option.bind_some, if_true]
    have : ((20 : Int) != 20) = false := by decide
    rw [this]
    exact names_end (by omega) hb hz hzl
  | d + 1, k, i, a, hi, hk, hal, ha => by
    obtain ⟨k, rfl⟩ : ∃ m, k = m + 1 := ⟨k - 1, by omega⟩
    simp only [twoslotlaw02_KernelNames.l0]
    rw [if_pos (by omega), if_pos (by omega), wrap_s (by omega) (by omega), show (i : Int) + 1 = ((i + 1 : Nat) : Int) by omega, Int.toNat_natCast]
    refine names_l0 hbl hb d k (i + 1) _ (by omega) (by omega) (by rw [List.length_set]; exact hal) (fun x hx => ?_)
    rcases List.mem_or_eq_of_mem_set hx with h | h
    · exact ha x h
    · rw [h]; omega
theorem KernelNames : twoslotlaw02_KernelNames.Pure := by
  obtain ⟨k, hk⟩ : ∃ k, 200000 ≤ k := ⟨200000, Nat.le_refl _⟩
  refine ⟨k, ?_⟩
  unfold twoslotlaw02_KernelNames.f
  rw [alive_f (by omega)]
  simp only [Option.bind_some, if_true]
  rw [if_pos (by omega), if_pos (by omega)]
  have h1 : (List.replicate 65536 (0 : Int)).length = 65536 := List.length_replicate
  have h2 := isB_rep 65536
  have h3 : (List.replicate 65537 (0 : Int)).length = 65537 := List.length_replicate
  have h4 : ∀ x ∈ List.replicate 65537 (0 : Int), x = 0 := fun x hx => (List.mem_replicate.1 hx).2
  generalize List.replicate 65536 (0 : Int) = a at h1 h2
  generalize List.replicate 65537 (0 : Int) = b at h3 h4
  exact names_l0 h3 h4 65536 k 0 a (by omega) (by omega) h1 h2
end Go.Proofs.YtngdkbhpgkmllaaDoor.Pure
