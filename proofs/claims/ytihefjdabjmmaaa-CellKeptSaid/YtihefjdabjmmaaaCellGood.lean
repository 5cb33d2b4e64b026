/- The newest slot and the next one, in plain Lean. No condition. -/
import Derived.Test.YtihefjdabjmmaaaCellFind
namespace Go.Proofs.Ytihefjdabjmmaaa.PD
open Go Go.RowKit
/-- what the law asks of the older slot -/
theorem older_good (r1 r3 : Int) (r7 : Bool) (s1 s3 : Int) (s7 : Bool) (kind : Int) :
    (r7 = false → cell_Older.of (held_at.f r1 r3 r7 s1 s3 s7 kind 0) r3 r7 s3 s7 0 = 0) ∧
    (r7 = true → s7 = false → cell_Older.of (held_at.f r1 r3 r7 s1 s3 s7 kind 0) r3 r7 s3 s7 0 = 1) ∧
    (r7 = true → s7 = true → cell_Older.of (held_at.f r1 r3 r7 s1 s3 s7 kind 0) r3 r7 s3 s7 0 = if r3 ≤ s3 then 0 else 1) := by
  unfold cell_Older.of
  rw [if_neg (fun z => absurd z.1 (by decide))]
  refine ⟨fun h => by rw [if_pos h], fun h h2 => by rw [if_neg (by simp [h]), if_pos h2], fun h h2 => ?_⟩
  rw [if_neg (by simp [h]), if_neg (by simp [h2])]
  by_cases h3 : s3 < r3
  · rw [if_pos h3, if_neg (by omega)]
  · rw [if_neg h3, if_pos (by omega)]
/-- what the law asks of the newest slot -/
theorem newest_good {r1 r2 r3 r4 : Int} {r5 r6 : List Int} {r7 : Bool} {s1 s2 s3 s4 : Int} {s5 s6 : List Int} {s7 : Bool} {kind : Int} {n t1 t2 t3 t4 : Int} {t5 t6 : List Int} {is : Bool} {e : Int}
    (hr : r7 = true → 1 ≤ r3 ∧ r3 ≤ 1073741824) (hs : s7 = true → 1 ≤ s3 ∧ s3 ≤ 1073741824)
    (h : cell_Newest.of r1 r2 r3 r4 r5 r6 r7 s1 s2 s3 s4 s5 s6 s7 kind = (n, t1, t2, t3, t4, t5, t6, is, e)) :
    e = 0 ∧ (is = false → ¬ (r7 = true ∧ r1 = kind) ∧ ¬ (s7 = true ∧ s1 = kind)) ∧
    (is = true → 1 ≤ t3 ∧ t3 ≤ 1073741824 ∧ cell_Find.of (held_at.f r1 r3 r7 s1 s3 s7 kind t3) r1 r2 r3 r4 r5 r6 s1 s2 s3 s4 s5 s6 = (n, t1, t2, t3, t4, t5, t6, true, 0) ∧
      (r7 = true → r1 = kind → r3 ≤ t3) ∧ (s7 = true → s1 = kind → s3 ≤ t3)) := by
  unfold cell_Newest.of at h
  by_cases c0 : r7 = true ∧ r1 = kind ∧ 0 < r3
  · rw [if_pos c0] at h
    have hr0 := hr c0.1
    by_cases c1 : s7 = true ∧ s1 = kind ∧ r3 < s3
    · rw [if_pos c1] at h
      simp only [Prod.mk.injEq] at h
      obtain ⟨rfl, rfl, rfl, rfl, rfl, rfl, rfl, rfl, rfl⟩ := h
      have hs0 := hs c1.1
      refine ⟨rfl, fun z => absurd z (by decide), fun _ => ⟨by omega, by omega, ?_, fun _ _ => by omega, fun _ _ => by omega⟩⟩
      have : held_at.f r1 r3 r7 s1 s3 s7 kind s3 = 1 := by
        unfold held_at.f
        rw [if_neg (fun z => by have := z.2.2; omega), if_pos ⟨c1.1, c1.2.1, rfl⟩]
      rw [this]; rfl
    · rw [if_neg c1] at h
      simp only [Prod.mk.injEq] at h
      obtain ⟨rfl, rfl, rfl, rfl, rfl, rfl, rfl, rfl, rfl⟩ := h
      refine ⟨rfl, fun z => absurd z (by decide), fun _ => ⟨by omega, by omega, ?_, fun _ _ => by omega, fun h1 h2 => ?_⟩⟩
      · have : held_at.f r1 r3 r7 s1 s3 s7 kind r3 = 0 := by
          unfold held_at.f
          rw [if_pos ⟨c0.1, c0.2.1, rfl⟩]
        rw [this]; rfl
      · have : ¬ r3 < s3 := fun z => c1 ⟨h1, h2, z⟩
        omega
  · rw [if_neg c0] at h
    by_cases c1 : s7 = true ∧ s1 = kind ∧ 0 < s3
    · rw [if_pos c1] at h
      simp only [Prod.mk.injEq] at h
      obtain ⟨rfl, rfl, rfl, rfl, rfl, rfl, rfl, rfl, rfl⟩ := h
      have hs0 := hs c1.1
      refine ⟨rfl, fun z => absurd z (by decide), fun _ => ⟨by omega, by omega, ?_, fun h1 h2 => ?_, fun _ _ => by omega⟩⟩
      · have : held_at.f r1 r3 r7 s1 s3 s7 kind s3 = 1 := by
          unfold held_at.f
          rw [if_neg (fun z => c0 ⟨z.1, z.2.1, by have := hr z.1; omega⟩), if_pos ⟨c1.1, c1.2.1, rfl⟩]
        rw [this]; rfl
      · exact absurd ⟨h1, h2, by have := hr h1; omega⟩ c0
    · rw [if_neg c1] at h
      simp only [Prod.mk.injEq] at h
      obtain ⟨rfl, rfl, rfl, rfl, rfl, rfl, rfl, rfl, rfl⟩ := h
      refine ⟨rfl, fun _ => ⟨fun z => c0 ⟨z.1, z.2, by have := hr z.1; omega⟩, fun z => c1 ⟨z.1, z.2, by have := hs z.1; omega⟩⟩, fun z => absurd z (by decide)⟩
end Go.Proofs.Ytihefjdabjmmaaa.PD
