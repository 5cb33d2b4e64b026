/- What the printed functions of slot tell of parameters and slots, in plain lists. No condition. -/
import Derived.Test.YtihefjdabjmmaaaPDx3
import Derived.Test.YtihefjdabjmmaaaPDx2
import Derived.Test.YtihefjdabjmmaaaPDx2
import Derived.Test.YtihefjdabjmmaaaVecA
import Derived.Laws.BitsAllLaws
namespace Go.Proofs.Ytihefjdabjmmaaa.Pure
open Go Go.RowKit Go.Proofs.Ytihefjdabjmmaaa Go.Proofs.Ytihefjdabjmmaaa.PD Go.Proofs.YtihefjdabjmmaaaW.PrintWords Go.Proofs.YtihefjdabjmmaaaW.PrintLast Go.Proofs.YtihefjdabjmmaaaW.PrintMore
theorem size_f {k : Nat} (hk : 1 ≤ k) (a b c d : Int) : slot_Size.f k a b c d = some (if pOk a b c d then (12 + 4 * (a + b) + c, 0) else (0, 2)) := by
  unfold slot_Size.f
  rw [drives_f hk]
  simp only [Option.bind_some]
  by_cases h : pOk a b c d
  · simp only [if_pos h, if_true]
    have h2 := h
    unfold pOk at h2
    have : wrap64 (wrap64 (12 + wrap64 (4 * (a + b))) + c) = 12 + 4 * (a + b) + c := by unfold wrap64; omega
    rw [this]
  · simp only [if_neg h]
    rw [if_neg (by decide)]
theorem awake_f {k : Nat} (hk : 1 ≤ k) : twoslotlaw10_awake.f k = some true := by
  unfold twoslotlaw10_awake.f
  rw [size_f hk, if_pos (by decide)]
  rfl
/-- a slot that may be -/
def sMay (a b c d kind index cell stripe : Int) (v data : List Int) : Prop :=
  chk a b c d v = 0 ∧ stripe = v.foldl mx 0 ∧ 0 ≤ index ∧ index < (v.length : Int) ∧ (kind = 1 ∨ kind = 2) ∧ cell = rd v index ∧ (data.length : Int) = c
instance (a b c d kind index cell stripe : Int) (v data : List Int) : Decidable (sMay a b c d kind index cell stripe v data) := by unfold sMay; infer_instance
theorem may_f {k : Nat} (hk : 20 ≤ k) (a b c d kind index cell stripe : Int) (v data : List Int) : slot_may.f k a b c d kind index cell stripe v data = some (decide (sMay a b c d kind index cell stripe v data)) := by
  unfold slot_may.f
  rw [last_f hk]
  simp only [Option.bind_some]
  by_cases h : chk a b c d v = 0
  case neg => rw [if_neg h]; simp only []; rw [if_neg h, decide_eq_false (fun z => h z.1)]
  rw [if_pos h]
  simp only [if_true]
  by_cases h1 : stripe = v.foldl mx 0
  case neg => rw [if_neg h1, decide_eq_false (fun z => h1 z.2.1)]
  rw [if_pos h1]
  by_cases h2 : index < 0
  · rw [if_pos h2, decide_eq_false (fun z => by have := z.2.2.1; omega)]
  rw [if_neg h2]
  by_cases h3 : index ≥ (v.length : Int)
  · rw [if_pos h3, decide_eq_false (fun z => by have := z.2.2.2.1; omega)]
  rw [if_neg h3, if_pos (show (0 : Int) ≤ index by omega), if_pos (show index < (v.length : Int) by omega)]
  have h6 : (if cell = rd v index then some ((data.length : Int) == c) else some false) = some (decide (cell = rd v index ∧ (data.length : Int) = c)) := by
    by_cases e : cell = rd v index
    · rw [if_pos e]; simp only [e, true_and]; rfl
    · rw [if_neg e]; simp only [e, false_and, decide_false]
  rw [h6]
  have h7 : sMay a b c d kind index cell stripe v data ↔ (kind = 1 ∨ kind = 2) ∧ (cell = rd v index ∧ (data.length : Int) = c) :=
    ⟨fun z => z.2.2.2.2, fun z => ⟨h, h1, by omega, by omega, z⟩⟩
  have h8 : decide (sMay a b c d kind index cell stripe v data) = decide ((kind = 1 ∨ kind = 2) ∧ (cell = rd v index ∧ (data.length : Int) = c)) := decide_eq_decide.2 h7
  rw [h8]
  by_cases h4 : kind = 1
  · rw [if_pos h4]; simp only [h4, true_or, true_and]
  by_cases h5 : kind = 2
  · rw [if_neg h4, if_pos h5]; simp only [h5, or_true, true_and]
  · rw [if_neg h4, if_neg h5]; simp only [h4, h5, or_self, false_and, decide_false]
end Go.Proofs.Ytihefjdabjmmaaa.Pure
