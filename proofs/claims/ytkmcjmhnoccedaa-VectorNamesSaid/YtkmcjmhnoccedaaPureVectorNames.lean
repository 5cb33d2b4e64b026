/- Versions at their ends; what is refused, in its order. A closed statement. -/
import Derived.Test.YtkmcjmhnoccedaaPCx9
import Derived.Test.YtkmcjmhnoccedaaVec
namespace Go.Proofs.Ytkmcjmhnoccedaa.Pure
open Go Go.RowKit Go.Proofs.Ytkmcjmhnoccedaa Go.Proofs.Ytkmcjmhnoccedaa.PC Go.Proofs.YtkmcjmhnoccedaaW.PrintWords Go.Proofs.YtkmcjmhnoccedaaW.PrintLast
theorem VectorNames : twoslotlaw07_VectorNames.Pure := by
  refine ⟨30, ?_⟩
  decide +kernel
end Go.Proofs.Ytkmcjmhnoccedaa.Pure
