/- What is written is read again, and the other way round; 'alike'. No condition. -/
import Derived.Test.YtihefjdabjmmaaaSlotRa
import Derived.Test.YtihefjdabjmmaaaSlot
import Derived.Test.YtihefjdabjmmaaaPDx0
namespace Go.Proofs.Ytihefjdabjmmaaa.Pure
open Go Go.RowKit Go.Proofs.Ytihefjdabjmmaaa Go.Proofs.Ytihefjdabjmmaaa.PD Go.Proofs.YtihefjdabjmmaaaW.PrintWords Go.Proofs.YtihefjdabjmmaaaW.PrintLast Go.Proofs.YtihefjdabjmmaaaW.PrintMore
theorem be4_num4 {a b c d : Int} (ha : 0 ≤ a ∧ a < 256) (hb : 0 ≤ b ∧ b < 256) (hc : 0 ≤ c ∧ c < 256) (hd : 0 ≤ d ∧ d < 256) : be4 (num4 a b c d) = [a, b, c, d] := by
  have e1 : num4 a b c d / 16777216 % 256 = a := by unfold num4; omega
  have e2 : num4 a b c d / 65536 % 256 = b := by unfold num4; omega
  have e3 : num4 a b c d / 256 % 256 = c := by unfold num4; omega
  have e4 : num4 a b c d % 256 = d := by unfold num4; omega
  unfold be4
  rw [e1, e2, e3, e4]
theorem vb_nums : ∀ (m : Nat) (l : List Int), 4 * m ≤ l.length → isB l → vb (nums m l) ++ l.drop (4 * m) = l
  | 0, l, _, _ => by simp [vb, nums]
  | m + 1, l, h, hB => by
    obtain ⟨a, b, c, d, t, rfl⟩ := four_of (l := l) (by omega)
    have e := vb_nums m t (by simp at h; omega) (fun x hx => hB x (by simp [hx]))
    have e1 : num (a :: b :: c :: d :: t) = num4 a b c d := rfl
    have e2 : vb (nums (m + 1) (a :: b :: c :: d :: t)) = be4 (num4 a b c d) ++ vb (nums m t) := by
      show vb (num (a :: b :: c :: d :: t) :: nums m t) = _
      rw [e1]; simp [vb]
    rw [e2, be4_num4 (hB a (by simp)) (hB b (by simp)) (hB c (by simp)) (hB d (by simp))]
    have e3 : (a :: b :: c :: d :: t).drop (4 * (m + 1)) = t.drop (4 * m) := by
      rw [show 4 * (m + 1) = 4 + 4 * m by omega, ← List.drop_drop]
      rfl
    rw [e3, List.append_assoc, e]
    rfl
theorem sb_cons (kind index cell stripe : Int) (v data : List Int) : sb kind index cell stripe v data = 84 :: 50 :: kind :: (index % 256) :: (be4 cell ++ (be4 stripe ++ (vb v ++ data))) := by simp [sb]
theorem prs_cases {a b c d : Int} {l : List Int} (hB : isB l) : (∃ e, prs a b c d l = (0, 0, 0, 0, [], [], false, e)) ∨
    ∃ kind index cell stripe v data, prs a b c d l = (kind, index, cell, stripe, v, data, true, 0) ∧ pOk a b c d ∧ sMay a b c d kind index cell stripe v data ∧ sb kind index cell stripe v data = l := by
  unfold prs
  by_cases hp : pOk a b c d
  case neg => rw [if_neg hp]; exact .inl ⟨_, rfl⟩
  rw [if_pos hp]
  by_cases h0 : l.length = 0
  · rw [if_pos h0]; exact .inl ⟨_, rfl⟩
  rw [if_neg h0]
  by_cases h1 : (l.length : Int) = 12 + 4 * (a + b) + c
  case neg => rw [if_neg h1]; exact .inl ⟨_, rfl⟩
  rw [if_pos h1]
  by_cases h2 : rd l 0 = 84 ∧ rd l 1 = 50
  case neg => rw [if_neg h2]; exact .inl ⟨_, rfl⟩
  rw [if_pos h2]
  unfold psd
  split
  case isFalse => exact .inl ⟨_, rfl⟩
  case isTrue h =>
  refine .inr ⟨_, _, _, _, _, _, rfl, hp, h, ?_⟩
  unfold pOk at hp
  obtain ⟨x0, x1, x2, x3, t, rfl⟩ := four_of (l := l) (by omega)
  obtain ⟨y0, y1, y2, y3, t2, rfl⟩ := four_of (l := t) (by simp at h1; omega)
  obtain ⟨z0, z1, z2, z3, t3, rfl⟩ := four_of (l := t2) (by simp at h1; omega)
  have g0 : x0 = 84 := h2.1
  have g1 : x1 = 50 := h2.2
  subst g0 g1
  have b3 := hB x3 (by simp)
  rw [sb_cons]
  show 84 :: 50 :: x2 :: (x3 % 256) :: (be4 (num4 y0 y1 y2 y3) ++ (be4 (num4 z0 z1 z2 z3) ++ (vb (nums (a + b).toNat t3) ++ List.drop (12 + 4 * (a + b).toNat) _))) = _
  rw [← List.drop_drop, be4_num4 (hB y0 (by simp)) (hB y1 (by simp)) (hB y2 (by simp)) (hB y3 (by simp)), be4_num4 (hB z0 (by simp)) (hB z1 (by simp)) (hB z2 (by simp)) (hB z3 (by simp))]
  have e5 : List.drop 12 (84 :: 50 :: x2 :: x3 :: y0 :: y1 :: y2 :: y3 :: z0 :: z1 :: z2 :: z3 :: t3) = t3 := rfl
  rw [e5, vb_nums _ t3 (by simp at h1; omega) (fun x hx => hB x (by simp [hx])), show x3 % 256 = x3 by omega]
  rfl
theorem fold_mem : ∀ (v : List Int) (x : Int), v.foldl mx x = x ∨ v.foldl mx x ∈ v
  | [], x => .inl rfl
  | y :: v, x => by
    rw [List.foldl_cons]
    rcases fold_mem v (mx x y) with h | h
    · rw [h, mx_eq]
      split
      · exact .inr (by simp)
      · exact .inl rfl
    · exact .inr (by simp [h])
theorem fold_le {M : Int} : ∀ (l : List Int) (a : Int), l.foldl mx a ≤ M ↔ a ≤ M ∧ ∀ x ∈ l, x ≤ M
  | [], a => by simp
  | x :: l, a => by
    rw [List.foldl_cons, fold_le l]
    simp only [mx_eq, List.mem_cons, forall_eq_or_imp]
    constructor
    · rintro ⟨h1, h2⟩
      split at h1 <;> exact ⟨by omega, by omega, h2⟩
    · rintro ⟨h1, h2, h3⟩
      exact ⟨by split <;> omega, h3⟩
/-- what a slot that may be holds -/
theorem may_all {a b c d kind index cell stripe : Int} {v data : List Int} (h : sMay a b c d kind index cell stripe v data) : (∀ x ∈ v, 1 ≤ x ∧ x ≤ stripe ∧ x ≤ 1073741824) ∧ stripe ∈ v ∧ (1 ≤ cell ∧ cell ≤ 1073741824) ∧ 1 ≤ stripe ∧ stripe ≤ 1073741824 := by
  obtain ⟨h1, h2, h3, h4, h5, h6, h7⟩ := h
  have hb := (chk_zero.1 h1).2.2
  have hv : ∀ x ∈ v, 1 ≤ x ∧ x ≤ 1073741824 := fun x hx => by
    have := List.any_eq_false.1 hb x hx
    rw [Bool.not_eq_true, hBad_iff] at this
    exact this
  have hle := (fold_le v 0).1 (Int.le_refl (v.foldl mx 0))
  obtain ⟨j, rfl⟩ := Int.eq_ofNat_of_zero_le h3
  have hj : v[j]'(by omega) ∈ v := List.getElem_mem _
  have hc : cell = v[j]'(by omega) := by rw [h6]; exact rd_at (by omega)
  have hm : stripe ∈ v := by
    rcases fold_mem v 0 with h | h
    · have := hle.2 _ hj; have := hv _ hj; omega
    · rw [h2]; exact h
  have hs := hv _ hm
  exact ⟨fun x hx => ⟨(hv x hx).1, by rw [h2]; exact hle.2 x hx, (hv x hx).2⟩, hm, by rw [hc]; exact hv _ hj, hs⟩
end Go.Proofs.Ytihefjdabjmmaaa.Pure
