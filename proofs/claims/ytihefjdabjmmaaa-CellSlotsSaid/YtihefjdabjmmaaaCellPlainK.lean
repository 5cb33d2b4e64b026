/- The plain law of CellKept. No condition. -/
import Derived.Test.YtihefjdabjmmaaaCellNew
import Derived.Test.YtihefjdabjmmaaaCellLook
import Derived.Test.YtihefjdabjmmaaaCellOld
import Derived.Test.YtihefjdabjmmaaaSlotQ
import Derived.Test.YtihefjdabjmmaaaSlotRa
import Derived.Test.YtihefjdabjmmaaaPDx0
namespace Go.Proofs.Ytihefjdabjmmaaa.Pure
open Go Go.RowKit Go.Proofs.Ytihefjdabjmmaaa Go.Proofs.Ytihefjdabjmmaaa.PD Go.Proofs.YtihefjdabjmmaaaW.PrintWords Go.Proofs.YtihefjdabjmmaaaW.PrintLast Go.Proofs.YtihefjdabjmmaaaW.PrintMore
theorem prs_cell {a b c d : Int} {l : List Int} (hB : isB l) {x1 x2 x3 x4 : Int} {x5 x6 : List Int} {x7 : Bool} {xe : Int} (hX : prs a b c d l = (x1, x2, x3, x4, x5, x6, x7, xe)) (h : x7 = true) : 1 ≤ x3 ∧ x3 ≤ 1073741824 := by
  rcases prs_cases (a := a) (b := b) (c := c) (d := d) hB with ⟨e, h1⟩ | ⟨q1, q2, q3, q4, q5, q6, h1, _, hm, _⟩
  · rw [hX] at h1
    simp only [Prod.mk.injEq] at h1
    rw [h1.2.2.2.2.2.2.1] at h; cases h
  · rw [hX] at h1
    simp only [Prod.mk.injEq] at h1
    have := (may_all hm).2.2.1
    rw [h1.2.2.1]; exact this
theorem awake_plain {k : Nat} (hk : 200 ≤ k) : cell_Older.f k 2 1 16 8 [] [] 1 0 0 = some (0, 0) ∧ cell_Newest.f k 2 1 16 8 [] [] 9 0 = some (0, 0, 0, 0, 0, [], [], false, 2) := by
  have hz : prs 2 1 16 8 [] = (0, 0, 0, 0, [], [], false, 0) := by unfold prs; rw [if_pos (by decide), if_pos (show ([] : List Int).length = 0 from rfl)]
  have hB : isB [] := fun x hx => by cases hx
  have hd : ∀ kind index, cell_look.f k 2 1 16 8 [] [] kind index = some (if (kind ≠ 1 ∧ kind ≠ 2) ∨ index < 0 ∨ index ≥ (3 : Int) then cell_look.zero 2 else (0, 0, 0, 0, [], [], false, 0, 0, 0, 0, [], [], false, 0)) := by
    intro kind index
    unfold cell_look.f
    rw [drives_f (by omega), if_pos (by decide), parse_f (by omega) 2 1 16 8 hB, hz]
    simp only [Option.bind_some, if_true, Bool.false_and]
    by_cases h : (kind ≠ 1 ∧ kind ≠ 2) ∨ index < 0 ∨ index ≥ (3 : Int)
    · rw [if_pos h]; exact if_pos h
    · rw [if_neg h]; exact if_neg h
  constructor
  · unfold cell_Older.f; rw [hd]; rfl
  · unfold cell_Newest.f; rw [hd]; rfl
end Go.Proofs.Ytihefjdabjmmaaa.Pure
namespace Go.Proofs.Ytihefjdabjmmaaa.Pure
open Go Go.RowKit Go.Proofs.Ytihefjdabjmmaaa Go.Proofs.Ytihefjdabjmmaaa.PD Go.Proofs.YtihefjdabjmmaaaW.PrintWords Go.Proofs.YtihefjdabjmmaaaW.PrintLast Go.Proofs.YtihefjdabjmmaaaW.PrintMore
theorem kb_str {l : List Int} (hB : isB l) : bytesOf (strOfNums l) = l := by
  have e : (strOfNums l).data.toList = Lib.bytesOf l := by rw [← Lib.strOfNums_toList, Lib.toList_data]
  unfold bytesOf
  rw [e]
  clear e
  induction l with
  | nil => rfl
  | cons a l ih =>
    have ha := hB a (by simp)
    have e := ih (fun z hz => hB z (by simp [hz]))
    unfold Lib.bytesOf at *
    simp only [List.map_cons, List.cons.injEq]
    refine ⟨?_, e⟩
    have : (UInt8.ofNat a.toNat).toNat = a.toNat := by rw [UInt8.toNat_ofNat']; omega
    omega
end Go.Proofs.Ytihefjdabjmmaaa.Pure
