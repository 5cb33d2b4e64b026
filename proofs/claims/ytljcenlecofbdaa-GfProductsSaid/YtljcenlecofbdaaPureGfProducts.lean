/- Sums, products and quotients of any two bytes are those of the field. No condition. -/
import Derived.Test.YtljcenlecofbdaaPAx2
import Derived.Test.YtljcenlecofbdaaPAx3
import Derived.Test.YtljcenlecofbdaaGfR
namespace Go.Proofs.Ytljcenlecofbdaa.Pure
open Go Go.RowKit Go.TwoGf Go.Proofs.Ytljcenlecofbdaa.PA Go.Proofs.YtljcenlecofbdaaW.PrintWords Go.Proofs.YtljcenlecofbdaaW.PrintLast
theorem GfProducts : twoslotlaw01_GfProducts.Pure := by
  intro a0 b0 wa wb
  obtain ⟨a, ha, rfl⟩ := byte_of wa
  obtain ⟨b, hb, rfl⟩ := byte_of wb
  refine ⟨400, ?_⟩
  unfold twoslotlaw01_GfProducts.f
  rw [alive_f 400 (by decide)]
  simp only [Option.bind_some, if_true]
  rw [div_f 400 a b (by decide) ha hb, inv_f a ha, rdiv_f 400 a b (by decide) ha hb, rinv_f 400 a (by decide) ha]
  simp only [Option.bind_some]
  rw [add_f a b ha hb, u8_xor_nat a b ha hb]
  simp only [Option.bind_some, if_true]
  rw [mul_f 400 a b (by decide) ha hb, rmul_f 400 a b (by decide) ha hb]
  simp only [Option.bind_some, if_true, beq_self_eq_true]
end Go.Proofs.Ytljcenlecofbdaa.Pure
