/- The builtin copy, for the walks by hand: the kit's own laws under one import, and a law on lists. No condition. -/
import Derived.Laws.CopyOwn
import Derived.Laws.MakeOwn
import Derived.Deep.RegionLaw
import Derived.Test.YthhncoogmncdkaaHK
namespace Go.Proofs.Ythhncoogmncdkaa
open Go Go.RowKit
/-- A block of just these cells is a row of one's own. -/
theorem own_of_block {w : World} {g base : Nat} {cells : List Value} {e : TypeId} (h : w.heap[g]? = some (.cells cells.toArray e (0, 0))) (hb : base ≤ g) (hl : cells.length ≤ maxLen) :
    w.ownsRow base e 1 (.slice (some ⟨g, 0, none⟩) cells.length cells.length) cells.length cells := by
  refine ⟨by omega, .inr ⟨g, cells.length, cells.toArray, rfl, hb, h, Nat.le_refl _, hl, by simp, ?_⟩⟩
  simp
end Go.Proofs.Ythhncoogmncdkaa
