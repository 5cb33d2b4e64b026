/- Bytes with the sums and products of gf are a field: of any three bytes. No condition. -/
import Derived.Test.YtljcenlecofbdaaPAx3
import Derived.Test.YtljcenlecofbdaaGfL
namespace Go.Proofs.Ytljcenlecofbdaa.Pure
open Go Go.RowKit Go.TwoGf Go.Proofs.Ytljcenlecofbdaa.PA Go.Proofs.YtljcenlecofbdaaW.PrintWords Go.Proofs.YtljcenlecofbdaaW.PrintLast
theorem GfField : twoslotlaw01_GfField.Pure := by
  intro a0 b0 c0 wa wb wc
  obtain ⟨a, ha, rfl⟩ := byte_of wa
  obtain ⟨b, hb, rfl⟩ := byte_of wb
  obtain ⟨c, hc, rfl⟩ := byte_of wc
  refine ⟨20, ?_⟩
  have z : gf_Add.f (a : Int) 0 = some (a : Int) := by rw [show (0 : Int) = ((0 : Nat) : Int) from rfl, add_f a 0 ha (by decide), Nat.xor_zero]
  have m1 : gf_Mul.f 19 (a : Int) 1 = some (a : Int) := by rw [show (1 : Int) = ((1 : Nat) : Int) from rfl, mul_f 19 a 1 (by decide) ha (by decide), gm_one ha]
  have m0 : gf_Mul.f 19 (a : Int) 0 = some 0 := by rw [show (0 : Int) = ((0 : Nat) : Int) from rfl, mul_f 19 a 0 (by decide) ha (by decide), gm_zero a]
  have d := div_f 18 (gm a b) b (by decide) (gm_lt a b) hb
  have x1 : b ^^^ a = a ^^^ b := Nat.xor_comm b a
  have x2 : a ^^^ b ^^^ c = a ^^^ (b ^^^ c) := Nat.xor_assoc a b c
  unfold twoslotlaw01_GfField.f
  rw [alive_f 20 (by decide)]
  simp only [Option.bind_some, if_true]
  rw [add_f a b ha hb, add_f b a hb ha]
  simp only [Option.bind_some]
  rw [x1, if_pos rfl, mul_f 20 a b (by decide) ha hb, mul_f 20 b a (by decide) hb ha]
  simp only [Option.bind_some]
  rw [gm_comm b a, if_pos rfl, add_f _ c (xor_lt ha hb) hc, add_f b c hb hc]
  simp only [Option.bind_some]
  rw [add_f a _ ha (xor_lt hb hc)]
  simp only [Option.bind_some]
  rw [x2, if_pos rfl, mul_f 20 _ c (by decide) (gm_lt a b) hc, mul_f 20 b c (by decide) hb hc]
  simp only [Option.bind_some]
  rw [mul_f 20 a _ (by decide) ha (gm_lt b c)]
  simp only [Option.bind_some]
  rw [gm_assoc, beq_self_eq_true]
  simp only [twoslotlaw01_GfField.j0]
  rw [add_f b c hb hc]
  simp only [Option.bind_some]
  rw [mul_f 19 a _ (by decide) ha (xor_lt hb hc), mul_f 19 a b (by decide) ha hb, mul_f 19 a c (by decide) ha hc]
  simp only [Option.bind_some]
  rw [add_f _ _ (gm_lt a b) (gm_lt a c)]
  simp only [Option.bind_some]
  rw [gm_xor, if_pos rfl, add_f a a ha ha]
  simp only [Option.bind_some]
  rw [Nat.xor_self, if_pos (show ((0 : Nat) : Int) = 0 from rfl), z]
  simp only [Option.bind_some, if_true]
  rw [m1]
  simp only [Option.bind_some, if_true]
  rw [m0]
  simp only [Option.bind_some]
  rw [beq_self_eq_true]
  simp only [twoslotlaw01_GfField.j1]
  rw [mul_f 18 a b (by decide) ha hb]
  simp only [Option.bind_some]
  rw [d]
  simp only [Option.bind_some, if_true]
  by_cases h0 : b = 0
  · subst h0; rfl
  · rw [if_neg (by omega), if_neg h0]
    simp only [if_true]
    have e : gm (gm a b) (gi b) = a := by rw [gm_assoc, gm_gi hb h0, gm_one ha]
    rw [if_pos (by rw [e])]
    have e2 := gm_eq_zero ha hb
    congr 1
    by_cases h1 : a = 0
    · subst h1; rw [zero_gm]; rfl
    · have h2 : gm a b ≠ 0 := fun h => by rcases e2.1 h with h | h <;> contradiction
      have f1 : (((gm a b : Nat) : Int) == 0) = false := by rw [beq_eq_false_iff_ne]; omega
      have f2 : (((a : Nat) : Int) == 0) = false := by rw [beq_eq_false_iff_ne]; omega
      rw [f1, f2]; rfl
end Go.Proofs.Ytljcenlecofbdaa.Pure
