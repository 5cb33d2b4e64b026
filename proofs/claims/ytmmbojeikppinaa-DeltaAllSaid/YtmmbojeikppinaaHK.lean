/- Small laws for the walks by hand. No condition. -/
import Derived.Test.YtmmbojeikppinaaWMore
import Derived.WalkSpells
import Derived.Lib.Hide
namespace Go.Proofs.Ytmmbojeikppinaa
open Go Go.RowKit Go.Proofs.YtmmbojeikppinaaW.PrintWords
end Go.Proofs.Ytmmbojeikppinaa
