/- KernelSums, in plain Lean: sums and multiples are the reference's, for every input. No condition. -/
import Derived.Test.YtngdkbhpgkmllaaDoorPSx9
import Derived.Test.YtngdkbhpgkmllaaDoorKerQ
import Derived.Test.YtngdkbhpgkmllaaDoorKerA
namespace Go.Proofs.YtngdkbhpgkmllaaDoor.Pure
open Go Go.RowKit Go.TwoGf Go.Proofs.YtngdkbhpgkmllaaDoor Go.Proofs.YtngdkbhpgkmllaaDoor.PS Go.Proofs.YtngdkbhpgkmllaaDoorW.PrintWords Go.Proofs.YtngdkbhpgkmllaaDoorW.PrintLast Go.Proofs.YtngdkbhpgkmllaaDoorW.PrintMore
theorem lent_f {l : List Int} (hl : l.length ≤ 200000) : twoslotlaw02_lent.f l = some l := by
  unfold twoslotlaw02_lent.f
  rw [if_pos (by simp; omega)]
  simp only [Option.bind_some, List.nil_append]
  rw [if_pos (by omega), if_pos (by omega), if_pos (by simp; omega), Int.toNat_natCast]
  simp
def padv (l : List Int) (n : Int) : List Int × Int := if (l.length : Int) > 65536 ∨ n < l.length ∨ n > 65536 then ([], 20) else (l ++ List.replicate (n.toNat - l.length) 0, 0)
theorem pad_f (l : List Int) (n : Int) : kernel_Pad.f l n = some (padv l n) := by
  unfold kernel_Pad.f padv
  by_cases h1 : (l.length : Int) > 65536
  · rw [if_pos h1, if_pos (.inl h1)]
  rw [if_neg h1]
  by_cases h2 : n < (l.length : Int)
  · rw [if_pos h2, if_pos (.inr (.inl h2))]
  rw [if_neg h2]
  by_cases h3 : n > 65536
  · rw [if_pos h3, if_pos (.inr (.inr h3))]
  · rw [if_neg h3, if_neg (by omega)]
theorem rpad_f (l : List Int) (n : Int) : twoslotref02_Pad.f l n = some (padv l n) := pad_f l n
theorem padv_len (l : List Int) (n : Int) : (padv l n).1.length ≤ 65536 := by
  unfold padv
  split
  · simp
  · simp; omega
theorem plusv_len (a : List Int) (c : Int) (b : List Int) : (plusv a c b).1.length ≤ 65536 := by
  unfold plusv
  split
  · rw [addv_len _ (by omega)]; omega
  · simp
theorem scalev_len (c : Int) (a : List Int) : (scalev c a).1.length ≤ 65536 := by
  unfold scalev
  split
  · rw [addv_len _ (by simp), List.length_replicate]; omega
  · simp
theorem sums_end {k : Nat} (hk : 70000 < k) {a b : List Int} {c : Int} (hc : 0 ≤ c ∧ c < 256) (hb : isB b) (n : Int) :
    twoslotlaw02_KernelSums.j1 k a b c a b (plusv a 1 b).1 (plusv a 1 b).2 (plusv a c b).1 (plusv a c b).2 (scalev c a).1 (scalev c a).2 (padv a n).1 (padv a n).2 (plusv a 1 b).2 (plusv a c b).1 (plusv a c b).2 (scalev c a).2 (padv a n).2 true = some true := by
  obtain ⟨k, rfl⟩ : ∃ m, k = m + 1 := ⟨k - 1, by omega⟩
  have q1 := plusv_len a 1 b
  have q2 := plusv_len a c b
  have q3 := scalev_len c a
  have q4 := padv_len a n
  obtain ⟨z1, hz1⟩ := spoil_f (k := k) (l := (plusv a 1 b).1) (by omega) (by omega)
  obtain ⟨z2, hz2⟩ := spoil_f (k := k) (l := (plusv a c b).1) (by omega) (by omega)
  obtain ⟨z3, hz3⟩ := spoil_f (k := k) (l := (scalev c a).1) (by omega) (by omega)
  obtain ⟨z4, hz4⟩ := spoil_f (k := k) (l := (padv a n).1) (by omega) (by omega)
  simp only [twoslotlaw02_KernelSums.j1]
  rw [hz1, hz2, hz3, hz4, plus_f (by omega) hc hb]
  simp only [Option.bind_some, if_true]
  rw [same_f rfl]
  unfold twoslotlaw02_kept.f
  simp
theorem KernelSums : twoslotlaw02_KernelSums.Pure := by
  intro a b c n _ _ ha0 _ _ hb0 hc0 _
  have ha := isB_wf ha0
  have hb := isB_wf hb0
  have hc : 0 ≤ c ∧ c < 256 := isB_wf (l := [c]) (fun x hx => by rw [List.mem_singleton.1 hx]; exact hc0) c (by simp)
  obtain ⟨k, hk⟩ : ∃ k, 300000 ≤ k := ⟨300000, Nat.le_refl _⟩
  refine ⟨k, ?_⟩
  unfold twoslotlaw02_KernelSums.f
  rw [alive_f (by omega)]
  simp only [Option.bind_some, if_true]
  obtain ⟨k, rfl⟩ : ∃ m, k = m + 1 := ⟨k - 1, by omega⟩
  by_cases h1 : (a.length : Int) > 200000
  · rw [if_pos h1]; simp [twoslotlaw02_KernelSums.j0]
  · rw [if_neg h1]
    by_cases h2 : (b.length : Int) > 200000
    · rw [decide_eq_true h2]; simp [twoslotlaw02_KernelSums.j0]
    · rw [decide_eq_false h2]
      simp only [twoslotlaw02_KernelSums.j0]
      rw [if_neg (by decide), lent_f (by omega), lent_f (by omega)]
      simp only [Option.bind_some]
      rw [xor_f (by omega) hb, plus_f (by omega) hc hb, scale_f (by omega) hc ha, pad_f, rxor_f (by omega) hb, rplus_f (by omega) hc hb, rscale_f (by omega) hc ha, rpad_f]
      simp only [Option.bind_some]
      rw [same_f rfl, same_f rfl, same_f rfl, same_f rfl, zero_f, rzero_f (by omega) (by omega)]
      simp only [Option.bind_some, if_true]
      have : (decide (∀ x ∈ a, x = 0) == decide (∀ x ∈ a, x = 0)) = true := by simp
      rw [this]
      exact sums_end (by omega) hc hb n
end Go.Proofs.YtngdkbhpgkmllaaDoor.Pure
