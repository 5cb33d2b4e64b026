/- What the document's answer of slot comes to, in plain lists. No condition. -/
import Derived.Test.YtihefjdabjmmaaaPEx9
import Derived.Test.YtihefjdabjmmaaaPEx3
import Derived.Test.YtihefjdabjmmaaaPEx2
import Derived.Test.YtihefjdabjmmaaaSlotRa
import Derived.Test.YtihefjdabjmmaaaSlot
namespace Go.Proofs.Ytihefjdabjmmaaa.Pure
open Go Go.RowKit Go.Proofs.Ytihefjdabjmmaaa Go.Proofs.Ytihefjdabjmmaaa.PE Go.Proofs.YtihefjdabjmmaaaW.PrintWords Go.Proofs.YtihefjdabjmmaaaW.PrintLast Go.Proofs.YtihefjdabjmmaaaW.PrintMore
theorem rsize_f (a b c d : Int) : twoslotref10_Size.f a b c d = some (if pOk a b c d then (12 + 4 * (a + b) + c, 0) else (0, 2)) := by
  unfold twoslotref10_Size.f
  rw [rmay06_f]
  simp only [Option.bind_some]
  by_cases h : pOk a b c d
  · rw [decide_eq_true h, if_pos rfl, if_pos h, rsize06_f h]; rfl
  · rw [decide_eq_false h, if_neg (by decide), if_neg h]
theorem four_f (l : List Int) (n : Int) (hn : 0 ≤ n) (hn2 : n ≤ 1073741824) (hl : l.length < 140737488355000) : twoslotref10_four.f l n = some (l ++ be4 n) := by
  unfold twoslotref10_four.f
  simp only [Option.bind_some]
  rw [if_pos (by simp; omega)]
  have e1 : wrap64 (Int.tdiv n 16777216) = n / 16777216 := by rw [Int.tdiv_eq_ediv_of_nonneg hn]; unfold wrap64; omega
  have e2 : Int.tmod (wrap64 (Int.tdiv n 65536)) 256 % 256 = n / 65536 % 256 := by
    rw [Int.tdiv_eq_ediv_of_nonneg hn, show wrap64 (n / 65536) = n / 65536 by unfold wrap64; omega, Int.tmod_eq_emod_of_nonneg (by omega)]; omega
  have e3 : Int.tmod (wrap64 (Int.tdiv n 256)) 256 % 256 = n / 256 % 256 := by
    rw [Int.tdiv_eq_ediv_of_nonneg hn, show wrap64 (n / 256) = n / 256 by unfold wrap64; omega, Int.tmod_eq_emod_of_nonneg (by omega)]; omega
  have e4 : Int.tmod n 256 % 256 = n % 256 := by rw [Int.tmod_eq_emod_of_nonneg hn]; omega
  rw [e1, e2, e3, e4]
  rfl
theorem made_l0 {v data : List Int} {kind index cell stripe : Int} (hv : v.length ≤ 1000) (hd : data.length ≤ 100000) (hg : ∀ i, i < v.length → 0 ≤ rd v (i : Nat) ∧ rd v (i : Nat) ≤ 1073741824) : ∀ (e k i : Nat) (o : List Int), i + e = v.length → e + 10 ≤ k → o.length ≤ 100 + 4 * i →
    twoslotref10_Made.l0 k o (i : Int) kind index cell stripe v data = some (o ++ vb (v.drop i) ++ data)
  | 0, k, i, o, h, hk, ho => by
    obtain ⟨k, rfl⟩ : ∃ m, k = m + 1 := ⟨k - 1, by omega⟩
    simp only [twoslotref10_Made.l0]
    rw [if_neg (by omega), if_pos (by omega), List.drop_of_length_le (by omega)]
    simp [vb]
  | e + 1, k, i, o, h, hk, ho => by
    obtain ⟨k, rfl⟩ : ∃ m, k = m + 1 := ⟨k - 1, by omega⟩
    have hgi := hg i (by omega)
    rw [rd_at (by omega)] at hgi
    simp only [twoslotref10_Made.l0]
    rw [if_pos (by omega), if_pos (by omega), rd_at (by omega), four_f _ _ hgi.1 hgi.2 (by omega)]
    simp only [Option.bind_some]
    rw [w64s (by omega), made_l0 hv hd hg e k (i + 1) _ (by omega) (by omega) (by simp [be4]; omega), List.drop_eq_getElem_cons (show i < v.length by omega)]
    simp only [vb, List.map_cons, List.flatten_cons, List.append_assoc]
/-- what a slot that may be holds -/
theorem may_bounds {a b c d kind index cell stripe : Int} {v data : List Int} (h : sMay a b c d kind index cell stripe v data) : (∀ i, i < v.length → 1 ≤ rd v (i : Nat) ∧ rd v (i : Nat) ≤ 1073741824) ∧ (1 ≤ cell ∧ cell ≤ 1073741824) ∧ (1 ≤ stripe ∧ stripe ≤ 1073741824) := by
  obtain ⟨h1, h2, h3, h4, h5, h6, h7⟩ := h
  have hb := bad_rd.1 (chk_zero.1 h1).2.2
  have hv : ∀ i, i < v.length → 1 ≤ rd v (i : Nat) ∧ rd v (i : Nat) ≤ 1073741824 := fun i hi => (hBad_iff _).1 (hb i hi)
  have hp := last_pos h1
  obtain ⟨j, rfl⟩ := Int.eq_ofNat_of_zero_le h3
  exact ⟨hv, by rw [h6]; exact hv j (by omega), by omega⟩
theorem made_f {k : Nat} (hk : 40 ≤ k) {a b c d kind index cell stripe : Int} {v data : List Int} (hp : pOk a b c d) (h : sMay a b c d kind index cell stripe v data) : twoslotref10_Made.f k kind index cell stripe v data = some (sb kind index cell stripe v data) := by
  obtain ⟨h1, h2, h3⟩ := may_bounds h
  have hs := short h.1
  have hd := h.2.2.2.2.2.2
  unfold pOk at hp
  unfold twoslotref10_Made.f
  rw [four_f _ _ (by omega) (by omega) (by simp)]
  simp only [Option.bind_some]
  rw [four_f _ _ (by omega) (by omega) (by simp [be4])]
  simp only [Option.bind_some]
  rw [show (0 : Int) = ((0 : Nat) : Int) from rfl, made_l0 (by omega) (by omega) (fun i hi => by have := h1 i hi; omega) v.length k 0 _ (by omega) (by omega) (by simp [be4])]
  simp [sb]
theorem rbytes_f {k : Nat} (hk : 40 ≤ k) (a b c d kind index cell stripe : Int) (v data : List Int) : twoslotref10_Bytes.f k a b c d kind index cell stripe v data =
    some (if pOk a b c d then (if sMay a b c d kind index cell stripe v data then (sb kind index cell stripe v data, 0) else ([], 100)) else ([], 2)) := by
  unfold twoslotref10_Bytes.f
  rw [rmay06_f]
  simp only [Option.bind_some]
  by_cases h : pOk a b c d
  case neg => rw [decide_eq_false h, if_neg (by decide), if_neg h]
  rw [decide_eq_true h, if_pos rfl, if_pos h, rmay_f (by omega) h]
  simp only [Option.bind_some]
  by_cases hm : sMay a b c d kind index cell stripe v data
  · rw [decide_eq_true hm, if_pos rfl, if_pos hm, made_f hk h hm]; rfl
  · rw [decide_eq_false hm, if_neg (by decide), if_neg hm]
theorem twin_f {v data : List Int} (h1 : v.length < 17592186044416) (h2 : data.length < 140737488355328) (kind index cell stripe : Int) : twoslotlaw10_twin.f kind index cell stripe v data = some (kind, index, cell, stripe, v, data) := by
  unfold twoslotlaw10_twin.f
  rw [if_pos (by simp; omega), if_pos (by simp; omega)]
  rfl
end Go.Proofs.Ytihefjdabjmmaaa.Pure
