/- Small laws for the walks by hand. No condition. -/
import Derived.Test.YthhncoogmncdkaaWMore
import Derived.WalkSpells
import Derived.Lib.Hide
namespace Go.Proofs.Ythhncoogmncdkaa
open Go Go.RowKit Go.Proofs.YthhncoogmncdkaaW.PrintWords
theorem h_bcell {W w1 : World} (hb : Below W.heap.size W w1) : (∀ b o, b < W.heap.size → w1.cell? ⟨b, o, none⟩ = W.cell? ⟨b, o, none⟩) ∧ (∀ b o, b < W.heap.size → w1.frozen? ⟨b, o, none⟩ = W.frozen? ⟨b, o, none⟩) :=
  ⟨fun b o h => hb.cell (p := ⟨b, o, none⟩) h, fun b o h => hb.frozen (p := ⟨b, o, none⟩) h⟩
theorem h_new {w w1 : World} {o : Obj} (hb : Below (w.alloc o).heap.size (w.alloc o) w1) : w1.heap[w.heap.size]? = some o ∧ Below w.heap.size w w1 := by
  refine ⟨(hb.block _ ?_).trans (blk_new w o), (below_alloc (Below.refl _ _) o).trans ⟨hb.os, hb.tape, hb.output, ?_, fun i hi => hb.block i ?_⟩⟩
  · simp
  · exact Nat.le_trans (by simp) hb.size
  · simp; omega
def hIdx (p : Int → Bool) : List Int → Int → Int
  | [], _ => -1
  | x :: xs, i => if p x then i else hIdx p xs (i + 1)
theorem hIdx_drop {p : Int → Bool} {l : List Int} {i : Nat} (h : i < l.length) : hIdx p (l.drop i) i = if p (rd l i) then (i : Int) else hIdx p (l.drop (i + 1)) ((i + 1 : Nat) : Int) := by
  rw [List.drop_eq_getElem_cons h, hIdx]
  have : rd l (i : Int) = l[i] := by simp [rd, h]
  rw [this]; rfl
theorem hIdx_any (p : Int → Bool) : ∀ (l : List Int) (i : Int), 0 ≤ i → decide (hIdx p l i ≥ 0) = l.any p
  | [], _, _ => rfl
  | x :: xs, i, h => by
    rw [hIdx, List.any_cons]
    cases p x with
    | true => simp [h]
    | false => simp only [Bool.false_eq_true, if_false, Bool.false_or]; exact hIdx_any p xs (i + 1) (by omega)
/-- no version -/
def hBad (x : Int) : Bool := !(decide (1 ≤ x) && decide (x ≤ 1073741824))
/-- What a step makes of a start, over two lists. -/
def hacc {α : Type} (f : α → Int → Int → Int → Option α) (s : α) (l1 l2 : List Int) : Nat → Option α
  | 0 => some s
  | n + 1 => (hacc f s l1 l2 n).bind fun a => f a n (rd l1 n) (rd l2 n)
theorem hacc_le {α : Type} {f : α → Int → Int → Int → Option α} {s : α} {l1 l2 : List Int} : ∀ {n m : Nat} {r : α}, m ≤ n → hacc f s l1 l2 n = some r → ∃ q, hacc f s l1 l2 m = some q
  | 0, m, r, hm, h => ⟨r, by obtain rfl : m = 0 := by omega
                             exact h⟩
  | n + 1, m, r, hm, h => by
    by_cases e : m = n + 1
    · subst e; exact ⟨r, h⟩
    · obtain ⟨a, ha, _⟩ := Option.bind_eq_some_iff.mp h
      exact hacc_le (by omega) ha
end Go.Proofs.Ythhncoogmncdkaa
