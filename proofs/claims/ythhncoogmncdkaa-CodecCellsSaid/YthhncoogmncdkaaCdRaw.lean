/- Two lists of raw rows, both of the call's own: what an append to one leaves of the other. No condition. -/
import Derived.Test.YthhncoogmncdkaaCdLit
namespace Go.Proofs.Ythhncoogmncdkaa
open Go Go.RowKit Go.Proofs.YthhncoogmncdkaaW.PrintWords Go.Proofs.YthhncoogmncdkaaW.PrintLast Go.Proofs.YthhncoogmncdkaaW.PrintMore
variable {W w1 : World} {e base : Nat} {ok : Nat → Prop} {v : Value} {xs : List (List Value)}
theorem raw_any (h : Kd.R (Kd.raw 1) e W base ok v xs) {ok' : Nat → Prop} (h' : ∀ k, v.ownBlock = some k → ok' k) : Kd.R (Kd.raw 1) e W base ok' v xs := by
  obtain ⟨h0, inner, hown, hr⟩ := h
  exact ⟨h', inner, hown, hr⟩
theorem raw_grown (h : Kd.R (Kd.raw 1) e W base (fun _ => True) v xs) {b : Option Nat} (hg : W.grownBy w1 b) (hne : ∀ k, v.ownBlock = some k → some k ≠ b) : Kd.R (Kd.raw 1) e w1 base (fun _ => True) v xs := by
  have h2 := raw_any h (ok' := fun k => v.ownBlock = some k) (fun k hk => hk)
  exact raw_any (Kd.R_step h2 (fun k ho hlt => hg.block k hlt (hne k ho))) (fun _ _ => trivial)
end Go.Proofs.Ythhncoogmncdkaa
