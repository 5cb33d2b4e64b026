/- What the printed functions of slot come to, in plain lists. No condition. -/
import Derived.Test.YtihefjdabjmmaaaPDx5
import Derived.Test.YtihefjdabjmmaaaPDx4
import Derived.Test.YtihefjdabjmmaaaSlotA
namespace Go.Proofs.Ytihefjdabjmmaaa.Pure
open Go Go.RowKit Go.Proofs.Ytihefjdabjmmaaa Go.Proofs.Ytihefjdabjmmaaa.PD Go.Proofs.YtihefjdabjmmaaaW.PrintWords Go.Proofs.YtihefjdabjmmaaaW.PrintLast Go.Proofs.YtihefjdabjmmaaaW.PrintMore
/-- a number's four bytes -/
def be4 (n : Int) : List Int := [n / 16777216 % 256, n / 65536 % 256, n / 256 % 256, n % 256]
theorem put_f {k : Nat} (hk : 6 ≤ k) (l : List Int) (n : Int) (hl : l.length < 140737488355000) : slot_put.f k l n = some (l ++ be4 n) := by
  obtain ⟨k, rfl⟩ : ∃ m, k = m + 1 + 1 + 1 + 1 + 1 := ⟨k - 5, by omega⟩
  unfold slot_put.f
  have w1 : wrap64 (24 - 8) = 16 := by unfold wrap64; omega
  have w2 : wrap64 (16 - 8) = 8 := by unfold wrap64; omega
  have w3 : wrap64 (8 - 8) = 0 := by unfold wrap64; omega
  have w4 : wrap64 (0 - 8) = -8 := by unfold wrap64; omega
  have s1 : shr .i64 n 24 = n / 16777216 := rfl
  have s2 : shr .i64 n 16 = n / 65536 := rfl
  have s3 : shr .i64 n 8 = n / 256 := rfl
  have s4 : shr .i64 n 0 = n := Int.ediv_one n
  simp only [slot_put.l0]
  rw [if_pos (by decide), if_pos (by decide), if_pos (by omega), w1, if_pos (by decide), if_pos (by decide), if_pos (by simp; omega), w2, if_pos (by decide), if_pos (by decide), if_pos (by simp; omega), w3, if_pos (by decide), if_pos (by decide), if_pos (by simp; omega), w4, if_neg (by decide), s1, s2, s3, s4]
  simp [be4]
def vb (v : List Int) : List Int := (v.map be4).flatten
theorem vb_len : ∀ v : List Int, (vb v).length = 4 * v.length
  | [] => rfl
  | x :: v => by
    have := vb_len v
    unfold vb at *
    simp [be4] at *
    omega
/-- a slot's bytes -/
def sb (kind index cell stripe : Int) (v data : List Int) : List Int := [84, 50, kind, index % 256] ++ be4 cell ++ be4 stripe ++ vb v ++ data
theorem bytes_l0 {v data : List Int} {kind index cell stripe : Int} (hv : v.length ≤ 1000) (hd : data.length ≤ 100000) : ∀ (e k i : Nat) (o : List Int), i + e = v.length → e + 10 ≤ k → o.length ≤ 100 + 4 * i →
    slot_Bytes.l0 k o v (v.length : Int) (i : Int) kind index cell stripe v data = some (o ++ vb (v.drop i) ++ data, 0)
  | 0, k, i, o, h, hk, ho => by
    obtain ⟨k, rfl⟩ : ∃ m, k = m + 1 := ⟨k - 1, by omega⟩
    simp only [slot_Bytes.l0]
    rw [if_neg (by omega), if_pos (by omega), List.drop_of_length_le (by omega)]
    simp [vb]
  | e + 1, k, i, o, h, hk, ho => by
    obtain ⟨k, rfl⟩ : ∃ m, k = m + 1 := ⟨k - 1, by omega⟩
    simp only [slot_Bytes.l0]
    rw [if_pos (by omega), if_pos (by omega), if_pos (by omega), rd_at (by omega), put_f (by omega) _ _ (by omega)]
    simp only [Option.bind_some]
    rw [w64s (by omega), bytes_l0 hv hd e k (i + 1) _ (by omega) (by omega) (by simp [be4]; omega), List.drop_eq_getElem_cons (show i < v.length by omega)]
    simp only [vb, List.map_cons, List.flatten_cons, List.append_assoc]
theorem bytes_f {k : Nat} (hk : 40 ≤ k) (a b c d kind index cell stripe : Int) (v data : List Int) : slot_Bytes.f k a b c d kind index cell stripe v data =
    some (if pOk a b c d then (if sMay a b c d kind index cell stripe v data then (sb kind index cell stripe v data, 0) else ([], 100)) else ([], 2)) := by
  unfold slot_Bytes.f
  rw [size_f (by omega)]
  simp only [Option.bind_some]
  by_cases h : pOk a b c d
  case neg => rw [if_neg h]; simp only []; rw [if_neg (by decide), if_neg h]
  rw [if_pos h]
  simp only [if_true]
  rw [may_f (by omega)]
  simp only [Option.bind_some]
  have hp := h
  unfold pOk at hp
  by_cases hm : sMay a b c d kind index cell stripe v data
  case neg => rw [decide_eq_false hm, if_neg (by decide), if_neg hm, if_pos h]
  rw [decide_eq_true hm, if_pos rfl, if_pos hm, if_pos h, if_pos (by omega), if_pos (by omega), if_pos (by simp), put_f (by omega) _ _ (by simp)]
  simp only [Option.bind_some]
  rw [put_f (by omega) _ _ (by simp [be4])]
  simp only [Option.bind_some]
  have hs := short hm.1
  have hd := hm.2.2.2.2.2.2
  rw [show (0 : Int) = ((0 : Nat) : Int) from rfl, bytes_l0 (by omega) (by omega) v.length k 0 _ (by omega) (by omega) (by simp [be4])]
  simp [sb]
end Go.Proofs.Ytihefjdabjmmaaa.Pure
