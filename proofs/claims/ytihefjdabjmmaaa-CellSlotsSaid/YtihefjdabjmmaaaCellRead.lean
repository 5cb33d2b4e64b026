/- What the reference reads, in plain Lean. No condition. -/
import Derived.Test.YtihefjdabjmmaaaPDx15
import Derived.Test.YtihefjdabjmmaaaPDx13
import Derived.Test.YtihefjdabjmmaaaSlotRa
namespace Go.Proofs.Ytihefjdabjmmaaa.Pure
open Go Go.RowKit Go.Proofs.Ytihefjdabjmmaaa Go.Proofs.Ytihefjdabjmmaaa.PD Go.Proofs.YtihefjdabjmmaaaW.PrintWords Go.Proofs.YtihefjdabjmmaaaW.PrintLast Go.Proofs.YtihefjdabjmmaaaW.PrintMore
theorem rd_drop4 {l : List Int} {i j : Nat} (h : i + j < l.length) : rd (l.drop i) (j : Nat) = rd l ((i + j : Nat) : Int) := by
  rw [rd_at (by rw [List.length_drop]; omega), rd_at h, List.getElem_drop]
theorem number_f {l : List Int} (hB : isB l) {i : Nat} (h : i + 4 ≤ l.length) (hl : l.length < 100000) {x : Int} (hx : x = (i : Nat)) : twoslotref10_number.f l x = some (num (l.drop i)) := by
  subst hx
  unfold twoslotref10_number.f
  have w1 : wrap64 ((i : Int) + 1) = ((i + 1 : Nat) : Int) := by unfold wrap64; omega
  have w2 : wrap64 ((i : Int) + 2) = ((i + 2 : Nat) : Int) := by unfold wrap64; omega
  have w3 : wrap64 ((i : Int) + 3) = ((i + 3 : Nat) : Int) := by unfold wrap64; omega
  rw [w1, w2, w3, if_pos (by omega), if_pos (by omega), if_pos (by omega), if_pos (by omega), if_pos (by omega), if_pos (by omega), if_pos (by omega), if_pos (by omega)]
  have e0 : rd (l.drop i) 0 = rd l (i : Nat) := rd_drop4 (j := 0) (by omega)
  have e1 : rd (l.drop i) 1 = rd l ((i + 1 : Nat) : Int) := rd_drop4 (j := 1) (by omega)
  have e2 : rd (l.drop i) 2 = rd l ((i + 2 : Nat) : Int) := rd_drop4 (j := 2) (by omega)
  have e3 : rd (l.drop i) 3 = rd l ((i + 3 : Nat) : Int) := rd_drop4 (j := 3) (by omega)
  unfold num
  rw [e0, e1, e2, e3]
  have b0 : 0 ≤ rd l (i : Nat) ∧ rd l (i : Nat) < 256 := by rw [rd_at (by omega)]; exact hB _ (List.getElem_mem _)
  have b1 : 0 ≤ rd l ((i + 1 : Nat) : Int) ∧ rd l ((i + 1 : Nat) : Int) < 256 := by rw [rd_at (by omega)]; exact hB _ (List.getElem_mem _)
  have b2 : 0 ≤ rd l ((i + 2 : Nat) : Int) ∧ rd l ((i + 2 : Nat) : Int) < 256 := by rw [rd_at (by omega)]; exact hB _ (List.getElem_mem _)
  have b3 : 0 ≤ rd l ((i + 3 : Nat) : Int) ∧ rd l ((i + 3 : Nat) : Int) < 256 := by rw [rd_at (by omega)]; exact hB _ (List.getElem_mem _)
  generalize rd l (i : Nat) = y0 at *
  generalize rd l ((i + 1 : Nat) : Int) = y1 at *
  generalize rd l ((i + 2 : Nat) : Int) = y2 at *
  generalize rd l ((i + 3 : Nat) : Int) = y3 at *
  clear w1 w2 w3 e0 e1 e2 e3 h hl hB
  unfold num4
  have v1 : wrap64 y0 = y0 := by unfold wrap64; omega
  have v2 : wrap64 y1 = y1 := by unfold wrap64; omega
  have v3 : wrap64 y2 = y2 := by unfold wrap64; omega
  have v4 : wrap64 y3 = y3 := by unfold wrap64; omega
  have u1 : wrap64 (y0 * 256) = y0 * 256 := by unfold wrap64; omega
  have u2 : wrap64 (y0 * 256 + y1) = y0 * 256 + y1 := by unfold wrap64; omega
  have u3 : wrap64 ((y0 * 256 + y1) * 256) = (y0 * 256 + y1) * 256 := by unfold wrap64; omega
  have u4 : wrap64 ((y0 * 256 + y1) * 256 + y2) = (y0 * 256 + y1) * 256 + y2 := by unfold wrap64; omega
  have u5 : wrap64 (((y0 * 256 + y1) * 256 + y2) * 256) = ((y0 * 256 + y1) * 256 + y2) * 256 := by unfold wrap64; omega
  have u6 : wrap64 (((y0 * 256 + y1) * 256 + y2) * 256 + y3) = ((y0 * 256 + y1) * 256 + y2) * 256 + y3 := by unfold wrap64; omega
  rw [v1, v2, v3, v4, u1, u2, u3, u4, u5, u6]
theorem w12 {x : Int} (h0 : 0 ≤ x) (h1 : x ≤ 100000) : wrap64 (12 + wrap64 (4 * x)) = 12 + 4 * x := by
  have e1 : wrap64 (4 * x) = 4 * x := by unfold wrap64; omega
  rw [e1]; unfold wrap64; omega
/-- without the error -/
def cut7 (r : Int × Int × Int × Int × List Int × List Int × Bool × Int) : Int × Int × Int × Int × List Int × List Int × Bool := (r.1, r.2.1, r.2.2.1, r.2.2.2.1, r.2.2.2.2.1, r.2.2.2.2.2.1, r.2.2.2.2.2.2.1)
theorem rread_l0 {a b c d kind index cell stripe : Int} (hp : pOk a b c d) {l : List Int} (hB : isB l) {m : Nat} (hm : (m : Int) = a + b) (hl : (l.length : Int) = 12 + 4 * (a + b) + c) : ∀ (e k i : Nat) (v : List Int), i + e = m → e + 60 ≤ k → v.length ≤ i →
    twoslotref10_Read.l0 k l (a + b) (i : Int) a b c d kind index cell stripe v = some (cut7 (psd a b c d kind index cell stripe (v ++ nums e (l.drop (12 + 4 * i))) (l.drop (12 + 4 * m))))
  | 0, k, i, v, h, hk, hv => by
    obtain ⟨k, rfl⟩ : ∃ q, k = q + 1 := ⟨k - 1, by omega⟩
    have hpp := hp
    unfold pOk at hpp
    simp only [twoslotref10_Read.l0]
    have w1 : wrap64 (12 + wrap64 (4 * (a + b))) = ((12 + 4 * m : Nat) : Int) := (w12 (by omega) (by omega)).trans (by omega)
    rw [if_neg (by omega), w1, if_pos (by omega), if_pos (by omega), if_pos (by simp; omega)]
    simp only [Option.bind_some, List.nil_append, Int.toNat_natCast]
    rw [rmay_f (by omega) hp]
    simp only [Option.bind_some, nums, List.append_nil]
    generalize l.drop (12 + 4 * m) = data
    unfold psd
    by_cases h : sMay a b c d kind index cell stripe v data
    · simp only [decide_eq_true h, if_true, if_pos h, cut7]
    · simp only [decide_eq_false h, Bool.false_eq_true, if_false, if_neg h, cut7]
  | e + 1, k, i, v, h, hk, hv => by
    obtain ⟨k, rfl⟩ : ∃ q, k = q + 1 := ⟨k - 1, by omega⟩
    have hpp := hp
    unfold pOk at hpp
    simp only [twoslotref10_Read.l0]
    have w1 : wrap64 (12 + wrap64 (4 * (i : Int))) = ((12 + 4 * i : Nat) : Int) := (w12 (by omega) (by omega)).trans (by omega)
    rw [if_pos (by omega), w1, number_f hB (i := 12 + 4 * i) (by omega) (by omega) rfl]
    simp only [Option.bind_some]
    rw [if_pos (by omega), w64s (by omega), rread_l0 hp hB hm hl e k (i + 1) _ (by omega) (by omega) (by simp; omega)]
    rw [nums, List.append_assoc, List.drop_drop, show 12 + 4 * i + 4 = 12 + 4 * (i + 1) by omega, List.singleton_append]
theorem rread_f {k : Nat} (hk : 100 ≤ k) {a b c d : Int} (hp : pOk a b c d) {l : List Int} (hB : isB l) :
    twoslotref10_Read.f k a b c d l = some (if (l.length : Int) = 12 + 4 * (a + b) + c ∧ rd l 0 = 84 ∧ rd l 1 = 50 then cut7 (psd a b c d (rd l 2) (rd l 3) (num (l.drop 4)) (num (l.drop 8)) (nums (a + b).toNat (l.drop 12)) (l.drop (12 + 4 * (a + b).toNat))) else (0, 0, 0, 0, [], [], false)) := by
  obtain ⟨k, rfl⟩ : ∃ q, k = q + 1 := ⟨k - 1, by omega⟩
  unfold twoslotref10_Read.f
  rw [rsize06_f hp]
  simp only [Option.bind_some]
  have hpp := hp
  unfold pOk at hpp
  have j0 : twoslotref10_Read.j0 (k + 1) l true a b c d = some (0, 0, 0, 0, [], [], false) := by simp only [twoslotref10_Read.j0, if_true]
  by_cases h1 : (l.length : Int) = 12 + 4 * (a + b) + c
  case neg => rw [if_neg h1, j0, if_neg (fun z => h1 z.1)]
  rw [if_pos h1, if_pos (by omega)]
  by_cases h2 : rd l 0 = 84
  case neg => rw [if_neg h2, j0, if_neg (fun z => h2 z.2.1)]
  rw [if_pos h2, if_pos (by omega)]
  by_cases h3 : rd l 1 = 50
  case neg => rw [bne_iff_ne.2 h3, j0, if_neg (fun z => h3 z.2.2)]
  rw [h3, bne_self_eq_false, if_pos ⟨h1, h2, rfl⟩]
  simp only [twoslotref10_Read.j0, Bool.false_eq_true, if_false]
  rw [if_pos (by omega), if_pos (by omega), number_f (x := 4) hB (i := 4) (by omega) (by omega) rfl, number_f (x := 8) hB (i := 8) (by omega) (by omega) rfl, rn_f hp]
  simp only [Option.bind_some]
  have h4 : wrap64 (rd l 3) = rd l 3 := by
    have h6 : rd l 3 = l[3] := rd_at (l := l) (i := 3) (by omega)
    have h5 := hB l[3] (List.getElem_mem (by omega))
    rw [h6]; unfold wrap64; omega
  have e0 := rread_l0 (kind := rd l 2) (index := rd l 3) (cell := num (l.drop 4)) (stripe := num (l.drop 8)) hp hB (m := (a + b).toNat) (by omega) h1 (a + b).toNat k 0 [] (by omega) (by omega) (by simp)
  rw [h4]
  simpa using e0
end Go.Proofs.Ytihefjdabjmmaaa.Pure
