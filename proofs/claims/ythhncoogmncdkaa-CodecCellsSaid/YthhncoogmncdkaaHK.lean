/- Small laws for the walks by hand. No condition. -/
import Derived.Test.YthhncoogmncdkaaWMore
import Derived.WalkSpells
import Derived.Lib.Hide
namespace Go.Proofs.Ythhncoogmncdkaa
open Go Go.RowKit Go.Proofs.YthhncoogmncdkaaW.PrintWords
def hIdx (p : Int → Bool) : List Int → Int → Int
  | [], _ => -1
  | x :: xs, i => if p x then i else hIdx p xs (i + 1)
/-- no version -/
def hBad (x : Int) : Bool := !(decide (1 ≤ x) && decide (x ≤ 1073741824))
/-- What a step makes of a start, over two lists. -/
def hacc {α : Type} (f : α → Int → Int → Int → Option α) (s : α) (l1 l2 : List Int) : Nat → Option α
  | 0 => some s
  | n + 1 => (hacc f s l1 l2 n).bind fun a => f a n (rd l1 n) (rd l2 n)
end Go.Proofs.Ythhncoogmncdkaa
