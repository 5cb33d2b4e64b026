/- An array of two, opened as an argument. No condition. -/
import Derived.Test.YtihefjdabjmmaaaOpen
import Derived.OpenShut
namespace Go.Proofs.Ytihefjdabjmmaaa
open Go Go.ChangeShapes Go.WideShapes Go.Proofs.YtihefjdabjmmaaaW.PrintWords
theorem opens_array2 {P : Program} {α : Type} {t e : TypeId} {d : Kd α} {G : α → Prop} (hu : P.underlying t = some (.array 2 e)) (hc : P.cellsOf t = d.sz + d.sz) (h : Opens P e d G) : Opens P t (Kd.pair d d) (fun x => G x.1 ∧ G x.2) := by
  refine ⟨hc, fun enc W base spare held fuel cs dat ps ht hw => ?_⟩
  obtain ⟨xs, m, rfl, hx, hl, hn, hi⟩ := DataW.trod_array hu ht
  injection hx with h1 h2
  subst h1
  obtain ⟨y0, y1, rfl⟩ : ∃ y0 y1, xs = [y0, y1] := by
    match xs, hn with
    | [y0, y1], _ => exact ⟨y0, y1, rfl⟩
  have e0 := hi 0 (by decide)
  have e1 := hi 1 (by decide)
  simp only [List.getElem?_cons_zero, Nat.zero_mul, List.drop_zero] at e0
  simp only [List.getElem?_cons_succ, List.getElem?_cons_zero, Nat.one_mul] at e1
  simp only [DataW.weights, hu, List.map_cons, List.map_nil] at hw
  have hw2 : (DataW.weights P e y0.1).all (· ≤ reachBytes) = true ∧ (DataW.weights P e y1.1).all (· ≤ reachBytes) = true := by
    simp only [DataW.weightsAll, List.append_nil, List.all_append, Bool.and_eq_true] at hw
    exact hw
  obtain ⟨x, hx, gx⟩ := h.2 enc W base spare held m _ y0.1 y0.2 e0 hw2.1
  obtain ⟨z, hz, gz⟩ := h.2 enc W base spare held m _ y1.1 y1.2 e1 hw2.2
  rw [h.1] at hx hz
  refine ⟨(x, z), ⟨_, _, ?_, hx, hz⟩, gx, gz⟩
  rw [show List.take d.sz (List.drop d.sz cs) = List.drop d.sz cs from List.take_of_length_le (by rw [List.length_drop, hl, hc]; omega)]
  exact (List.take_append_drop _ _).symm
end Go.Proofs.Ytihefjdabjmmaaa
