/- Powers and logarithms of any byte are those of the field, for any whole number. No condition. -/
import Derived.Test.YtljcenlecofbdaaPAx3
import Derived.Test.YtljcenlecofbdaaPAx4
import Derived.Test.YtljcenlecofbdaaGfS
namespace Go.Proofs.Ytljcenlecofbdaa.Pure
open Go Go.RowKit Go.TwoGf Go.Proofs.Ytljcenlecofbdaa.PA Go.Proofs.YtljcenlecofbdaaW.PrintWords Go.Proofs.YtljcenlecofbdaaW.PrintLast
theorem GfPowers : twoslotlaw01_GfPowers.Pure := by
  intro a0 n wa _
  obtain ⟨a, ha, rfl⟩ := byte_of wa
  refine ⟨400, ?_⟩
  unfold twoslotlaw01_GfPowers.f
  rw [alive_f 400 (by decide)]
  simp only [Option.bind_some, if_true]
  rw [pow_f a n ha, log_f a ha, rpow_f 400 a n (by decide) ha, rlog_f 400 a (by decide) ha]
  simp only [Option.bind_some, if_true]
  rw [exp_f n, rexp_f 400 n (by decide)]
  simp only [Option.bind_some, if_true, beq_self_eq_true]
end Go.Proofs.Ytljcenlecofbdaa.Pure
