/- 'make([]T, 0, n)' as an own row that is empty, and 'xs[:j:j]' of a slice that is read. No condition. -/
import Derived.Test.YthhncoogmncdkaaWMore
namespace Go.Proofs.YthhncoogmncdkaaW.PrintWords
open Go Go.RowKit
namespace Kd
section
variable {P : Program} {ops : Array Oper} {rest : List Oper} {o : Oper} {a : Act} {Q : Exit → Act → World → Prop} {Kc : Act → World → Prop} {α : Type}
end
end Kd
end Go.Proofs.YthhncoogmncdkaaW.PrintWords
