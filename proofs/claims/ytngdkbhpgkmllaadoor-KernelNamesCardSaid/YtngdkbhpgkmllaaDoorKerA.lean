/- alive of layer 2 answers true. No condition. -/
import Derived.Test.YtngdkbhpgkmllaaDoorPNx4
import Derived.Test.YtngdkbhpgkmllaaDoorKer
namespace Go.Proofs.YtngdkbhpgkmllaaDoor.Pure
open Go Go.RowKit Go.TwoGf Go.Proofs.YtngdkbhpgkmllaaDoor Go.Proofs.YtngdkbhpgkmllaaDoor.PN Go.Proofs.YtngdkbhpgkmllaaDoorW.PrintWords Go.Proofs.YtngdkbhpgkmllaaDoorW.PrintLast Go.Proofs.YtngdkbhpgkmllaaDoorW.PrintMore
theorem alive_f {k : Nat} (hk : 60 ≤ k) : twoslotlaw02_alive.f k = some true := by
  have e1 : kernel_Xor.f k [1, 2, 3] [3, 2, 1] = some ([2, 0, 2], 0) := by rw [xor_f (by omega) (by decide)]; decide +kernel
  have e2 : kernel_Plus.f k [1, 0] 2 [128, 1] = some ([28, 2], 0) := by rw [plus_f (by omega) (by decide) (by decide)]; decide +kernel
  have e3 : kernel_Scale.f k 2 [128, 1] = some ([29, 2], 0) := by rw [scale_f (by omega) (by decide) (by decide)]; decide +kernel
  have e4 : kernel_Dot.f k [1, 2] [[1, 1], [128, 0]] = some ([28, 1], 0) := by rw [dot_f (by decide) (by simp; omega) (by decide) (by decide)]; decide +kernel
  have e5 : kernel_Pad.f [1, 2] 4 = some ([1, 2, 0, 0], 0) := by decide +kernel
  have e6 : kernel_Xor.f k [1] [1, 2] = some ([], 20) := by rw [xor_f (by omega) (by decide)]; decide +kernel
  have e7 : kernel_Zero.f ([] : List Int) = some true := by decide +kernel
  have e8 : kernel_Zero.f [2, 0, 2] = some false := by decide +kernel
  unfold twoslotlaw02_alive.f
  rw [if_pos (show twoslotlaw02_alive.ok k from ⟨e1, e2, e3, e4, e5, e6, e7, e8⟩)]
end Go.Proofs.YtngdkbhpgkmllaaDoor.Pure
