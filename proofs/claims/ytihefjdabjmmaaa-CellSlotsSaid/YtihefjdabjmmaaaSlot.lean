/- What the printed functions of slot come to, in plain lists. No condition. -/
import Derived.Test.YtihefjdabjmmaaaPDx0
namespace Go.Proofs.Ytihefjdabjmmaaa.Pure
open Go Go.RowKit Go.Proofs.Ytihefjdabjmmaaa Go.Proofs.Ytihefjdabjmmaaa.PD Go.Proofs.YtihefjdabjmmaaaW.PrintWords Go.Proofs.YtihefjdabjmmaaaW.PrintLast Go.Proofs.YtihefjdabjmmaaaW.PrintMore
/-- a number's four bytes -/
def be4 (n : Int) : List Int := [n / 16777216 % 256, n / 65536 % 256, n / 256 % 256, n % 256]
def vb (v : List Int) : List Int := (v.map be4).flatten
/-- a slot's bytes -/
def sb (kind index cell stripe : Int) (v data : List Int) : List Int := [84, 50, kind, index % 256] ++ be4 cell ++ be4 stripe ++ vb v ++ data
end Go.Proofs.Ytihefjdabjmmaaa.Pure
