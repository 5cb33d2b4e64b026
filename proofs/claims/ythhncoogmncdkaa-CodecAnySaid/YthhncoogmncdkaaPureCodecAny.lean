/- CodecAny, in plain Lean: whichever cells are missing, k of them are enough to make all again; for every input. No condition. -/
import Derived.Test.YthhncoogmncdkaaPAx26
import Derived.Test.YthhncoogmncdkaaDSame
namespace Go.Proofs.Ythhncoogmncdkaa.Pure
open Go Go.RowKit Go.TwoGf Go.TwoLin Go.Proofs.Ythhncoogmncdkaa Go.Proofs.Ythhncoogmncdkaa.PA Go.Proofs.YthhncoogmncdkaaW.PrintWords Go.Proofs.YthhncoogmncdkaaW.PrintLast Go.Proofs.YthhncoogmncdkaaW.PrintMore
set_option linter.unusedVariables false
theorem rw_set (T : List (List Int)) (n j : Nat) : rw_ (T.set n []) j = if n = j then [] else rw_ T j := by
  unfold rw_
  rw [List.getD_eq_getElem?_getD, List.getD_eq_getElem?_getD, List.getElem?_set]
  by_cases e : n = j
  · rw [if_pos e, if_pos e]
    split <;> rfl
  · rw [if_neg e, if_neg e]
theorem posI_set : ∀ (T : List (List Int)) (n i : Nat), (posI T i).length ≤ (posI (T.set n []) i).length + 1
  | [], n, i => by simp [posI]
  | x :: T, 0, i => by
    rw [List.set_cons_zero, posI, posI]
    have h0 : ([] : List Int).length = 0 := rfl
    rw [if_pos h0]
    split
    · exact Nat.le_succ _
    · simp
  | x :: T, n + 1, i => by
    have := posI_set T n (i + 1)
    rw [List.set_cons_succ, posI, posI]
    split
    · exact this
    · simp only [List.length_cons]; omega
theorem posI_full' : ∀ (T : List (List Int)) (i : Nat), (∀ y ∈ T, y.length ≠ 0) → (posI T i).length = T.length := posI_all
/-- what is left when cells are taken away -/
theorem del_facts (all : List (List Int)) (h : ∀ y ∈ all, y.length ≠ 0) : ∀ (D : List Nat) (T : List (List Int)) (m : Nat), T.length = all.length → (∀ j, rw_ T j = rw_ all j ∨ rw_ T j = []) → all.length ≤ (posI T 0).length + m →
    (D.foldl (fun T n => T.set n []) T).length = all.length ∧ (∀ j, rw_ (D.foldl (fun T n => T.set n []) T) j = rw_ all j ∨ rw_ (D.foldl (fun T n => T.set n []) T) j = []) ∧ all.length ≤ (posI (D.foldl (fun T n => T.set n []) T) 0).length + (m + D.length)
  | [], T, m, h1, h2, h3 => ⟨h1, h2, by simpa using h3⟩
  | n :: D, T, m, h1, h2, h3 => by
    rw [List.foldl_cons]
    have hp := posI_set T n 0
    obtain ⟨q1, q2, q3⟩ := del_facts all h D (T.set n []) (m + 1) (by rw [List.length_set]; exact h1) (fun j => by
      rw [rw_set]
      by_cases e : n = j
      · rw [if_pos e]; exact .inr rfl
      · rw [if_neg e]; exact h2 j) (by omega)
    exact ⟨q1, q2, by rw [List.length_cons]; omega⟩
theorem twin_l0 (l : List (List Int)) (hs : l.length ≤ 100000) (hb : ∀ b ∈ l, b.length ≤ 140737488351232) : ∀ (d k i : Nat), i + d = l.length → d < k → twoslotref02_Twin.l0 k l (l.take i) (i : Int) = some l
  | 0, k, i, hi, hk => by
    obtain ⟨k, rfl⟩ : ∃ m, k = m + 1 := ⟨k - 1, by omega⟩
    obtain rfl : i = l.length := by omega
    simp [twoslotref02_Twin.l0]
  | d + 1, k, i, hi, hk => by
    obtain ⟨k, rfl⟩ : ∃ m, k = m + 1 := ⟨k - 1, by omega⟩
    have hlt : i < l.length := by omega
    have := hb l[i] (List.getElem_mem _)
    simp only [twoslotref02_Twin.l0]
    rw [if_pos (by omega), if_pos (by omega), rd_L1_nat hlt, if_pos (by simp; omega), if_pos (by simp; omega), wrap_s (by omega) (by omega), List.nil_append]
    have := twin_l0 l hs hb d k (i + 1) (by omega) (by omega)
    rw [show ((i + 1 : Nat) : Int) = (i : Int) + 1 by omega, List.take_succ_eq_append_getElem hlt] at this
    exact this
theorem twin_f {k : Nat} {l : List (List Int)} (hs : l.length ≤ 100000) (hb : ∀ b ∈ l, b.length ≤ 140737488351232) (hk : l.length < k) : twoslotref02_Twin.f k l = some l := by
  have := twin_l0 l hs hb l.length k 0 (by omega) hk
  exact this
theorem bits_wrong {row : List Int} (h : isB row) (h0 : 0 < row.length) : isB (row.set 0 (Go.bits .xor .u8 (rd row 0) 1)) ∧ row.set 0 (Go.bits .xor .u8 (rd row 0) 1) ≠ row := by
  have hx := isB_rd h 0
  have e : Go.bits .xor .u8 (rd row 0) 1 = ofF (toF (rd row 0) + toF 1) := xor_v hx (by decide)
  rw [e]
  refine ⟨isB_set h (ofF_rng _), fun z => ?_⟩
  have h1 : rd (row.set 0 (ofF (toF (rd row 0) + toF 1))) ((0 : Nat) : Int) = ofF (toF (rd row 0) + toF 1) := by rw [rd_set h0, if_pos rfl]
  rw [z] at h1
  have h2 : toF (rd row 0) = toF (rd row 0) + toF 1 := by
    have := congrArg toF h1
    rwa [toF_ofF] at this
  have h3 := congrArg (fun q => toF (rd row 0) + q) h2
  simp only [← add_assoc, add_self, zero_add] at h3
  exact one_ne h3.symm
section
variable {k r n : Nat} {l : List (List Int)} (k1 : 1 ≤ k) (k2 : k ≤ 12) (r4 : r ≤ 4) (n1 : 1 ≤ n) (n2 : n ≤ 65536) (hl : rect k n l) (ml : isM l)
include k1 k2 r4 n1 n2 hl ml
theorem any_dec {K : Nat} (hK : 300 ≤ K) (D : List Nat) (hD : D.length ≤ r) : codec_Decode.f K (k : Int) (r : Int) (twoslotlaw04_CodecAny.del (coded n (codec_Row.M k r) l) D) = some (coded n (codec_Row.M k r) l, 0) := by
  have ra : rect (k + r) n (coded n (codec_Row.M k r) l) := by have := coded_rect (rs := codec_Row.M k r) hl; rwa [(allM_rect k r).1] at this
  have ba := coded_isM n (codec_Row.M k r) l
  have hne : ∀ y ∈ coded n (codec_Row.M k r) l, y.length ≠ 0 := fun y hy => by rw [ra.2 y hy]; omega
  obtain ⟨q1, q2, q3⟩ := del_facts _ hne D (coded n (codec_Row.M k r) l) 0 rfl (fun j => .inl rfl) (by rw [posI_full' _ 0 hne]; exact Nat.le_refl _)
  have hdel : twoslotlaw04_CodecAny.del (coded n (codec_Row.M k r) l) D = D.foldl (fun T n => T.set n []) (coded n (codec_Row.M k r) l) := rfl
  rw [← hdel] at q1 q2 q3
  generalize twoslotlaw04_CodecAny.del (coded n (codec_Row.M k r) l) D = S at q1 q2 q3
  rw [ra.1] at q1 q3
  have hrow : ∀ y ∈ S, ∃ j, j < k + r ∧ y = rw_ S j := fun y hy => by
    obtain ⟨j, hj, e⟩ := List.getElem_of_mem hy
    exact ⟨j, by omega, by rw [rw_lt hj, e]⟩
  have hDec : Dec k r n S := ⟨k1, k2, r4, q1, n1, n2, fun y hy => by
      obtain ⟨j, hj, rfl⟩ := hrow y hy
      rcases q2 j with e | e
      · rw [e]; exact .inr (rect_row ra hj)
      · rw [e]; exact .inl rfl, by omega, fun y hy => by
      obtain ⟨j, hj, rfl⟩ := hrow y hy
      rcases q2 j with e | e
      · rw [e]; exact rw_B ba j
      · rw [e]; exact isB_nil⟩
  obtain ⟨data, d1, d2, d3, _, d5⟩ := dec_ok hK hDec
  have hd : data = l := d5 l ml hl fun x hx => by
    obtain ⟨j, j1, j2, j3⟩ := hDec.tk_mem hx
    obtain rfl : x = j := by omega
    rcases q2 x with e | e
    · rw [e]
    · rw [e] at j2; simp at j2; omega
  rw [d3, hd]
theorem any_wrong {K : Nat} (hK : 300 ≤ K) (hr : 1 ≤ r) : codec_Verify.f K (k : Int) (r : Int) (twoslotlaw04_CodecAny.wrong (coded n (codec_Row.M k r) l) k) = some (false, 0) := by
  have ra : rect (k + r) n (coded n (codec_Row.M k r) l) := by have := coded_rect (rs := codec_Row.M k r) hl; rwa [(allM_rect k r).1] at this
  have ba := coded_isM n (codec_Row.M k r) l
  have hrowB := rw_B ba k
  have hrowL := rect_row ra (i := k) (by omega)
  have hv := bits_wrong hrowB (by omega)
  have cr : rect r n (coded n ((codec_Row.M k r).drop k) l) := by
    have := coded_rect (rs := (codec_Row.M k r).drop k) hl
    rwa [List.length_drop, (allM_rect k r).1, Nat.add_sub_cancel_left] at this
  unfold twoslotlaw04_CodecAny.wrong
  generalize hrow : rw_ (coded n (codec_Row.M k r) l) k = row at hrowB hrowL hv
  obtain ⟨v, hvv⟩ : ∃ v, v = row.set 0 (Go.bits .xor .u8 (rd row 0) 1) := ⟨_, rfl⟩
  rw [← hvv] at hv ⊢
  have hvl : v.length = n := by rw [hvv, List.length_set, hrowL]
  have e : (coded n (codec_Row.M k r) l).set k v = l ++ (coded n ((codec_Row.M k r).drop k) l).set 0 v := by
    rw [coded_all k2 r4 ml hl, List.set_append_right _ _ (by rw [hl.1]; exact Nat.le_refl _), hl.1, Nat.sub_self]
  have hB : isM ((coded n (codec_Row.M k r) l).set k v) := fun y hy => by
    rcases List.mem_or_eq_of_mem_set hy with h | h
    · exact ba y h
    · rw [h]; exact hv.1
  have hR : rect (k + r) n ((coded n (codec_Row.M k r) l).set k v) := ⟨by rw [List.length_set]; exact ra.1, fun y hy => by
    rcases List.mem_or_eq_of_mem_set hy with h | h
    · exact ra.2 y h
    · rw [h]; exact hvl⟩
  rw [ver_ok hK k1 k2 r4 n1 n2 hR hB, e]
  have e1 : (l ++ (coded n ((codec_Row.M k r).drop k) l).set 0 v).take k = l := by rw [← hl.1, List.take_left]
  have e2 : (l ++ (coded n ((codec_Row.M k r).drop k) l).set 0 v).drop k = (coded n ((codec_Row.M k r).drop k) l).set 0 v := by
    conv => lhs; arg 1; rw [← hl.1]
    rw [List.drop_left]
  rw [e1, e2, decide_eq_false]
  intro z
  have h0 : rw_ (coded n ((codec_Row.M k r).drop k) l) 0 = row := by
    rw [← hrow, coded_all k2 r4 ml hl]
    unfold rw_
    rw [List.getD_eq_getElem?_getD, List.getD_eq_getElem?_getD, List.getElem?_append_right (by rw [hl.1]; exact Nat.le_refl _), hl.1, Nat.sub_self]
  have h1 : rw_ ((coded n ((codec_Row.M k r).drop k) l).set 0 v) 0 = v := by
    rw [rw_lt (by rw [List.length_set, cr.1]; omega)]; simp
  rw [← z, h0] at h1
  exact hv.2 h1.symm
end
theorem any_ok {K : Nat} (hK : 1000 ≤ K) {a b : Int} {l2 : List (List Int)} {l3 : List Int} (hB : isM l2) : twoslotlaw04_CodecAny.ok K a b l2 l3 := by
  refine ⟨alive_f (by omega), ?_⟩
  rcases much_f (K := K) (by omega) l2 with h1 | ⟨h1, _⟩
  · exact ⟨true, h1, fun z => by cases z⟩
  refine ⟨false, h1, fun _ => ?_⟩
  rcases enc_any (K := K) (by omega) (k := a) (r := b) l2 with ⟨h3, h4, n, h5⟩ | ⟨e, h3, h4⟩
  case inr => exact ⟨[], e, h4, fun _ => rfl, fun z => absurd z h3⟩
  have he := enc_ok (K := K) (by omega) h3 h4 h5 hB
  refine ⟨_, 0, he, fun z => absurd rfl z, fun _ => ?_⟩
  obtain ⟨g1, g2, g3, g4⟩ := h3
  obtain ⟨k, rfl⟩ := Int.eq_ofNat_of_zero_le (show 0 ≤ a by omega)
  obtain ⟨r, rfl⟩ := Int.eq_ofNat_of_zero_le (show 0 ≤ b by omega)
  have k1 : 1 ≤ k := by omega
  have k2 : k ≤ 12 := by omega
  have r4 : r ≤ 4 := by omega
  have hl : rect k n l2 := ⟨by omega, fun z hz => (h5 z hz).2.2⟩
  have hn : 1 ≤ n ∧ n ≤ 65536 := by
    have := h5 _ (rw_mem (M := l2) (i := 0) (by omega))
    omega
  rw [Int.toNat_natCast, Int.toNat_natCast] at he ⊢
  have hall := coded_all k2 r4 hB hl
  have ra : rect (k + r) n (coded n (codec_Row.M k r) l2) := by have := coded_rect (rs := codec_Row.M k r) hl; rwa [(allM_rect k r).1] at this
  have hpl : (coded n ((codec_Row.M k r).drop k) l2).length = r := by rw [(coded_rect hl).1, List.length_drop, (allM_rect k r).1, Nat.add_sub_cancel_left]
  unfold twoslotlaw04_CodecAny.good
  rw [← hall]
  refine ⟨by rw [hpl, Int.toNat_natCast], g1, g2, g3, g4, by rw [hl.1, Int.toNat_natCast], fun y hy => by rw [ra.2 y hy]; exact hn.1, fun D hD => ?_, ?_, ?_, ?_, fun hr => ?_⟩
  · exact any_dec k1 k2 r4 hn.1 hn.2 hl hB (by omega) D (by rw [Int.toNat_natCast] at hD; exact hD)
  · exact sameAll_f (by rw [ra.1]; omega) (by rw [ra.1]; omega)
  · exact ver_coded (by omega) k1 k2 r4 hn.1 hn.2 hB hl
  · exact twin_f (by rw [ra.1]; omega) (fun y hy => by rw [ra.2 y hy]; omega) (by rw [ra.1]; omega)
  · rw [Int.toNat_natCast]
    exact any_wrong k1 k2 r4 hn.1 hn.2 hl hB (by omega) (by omega)
theorem CodecAny : ∀ (a0 : Int) (a1 : Int) (l2 : List (List Int)) (l3 : List Int), (Lit.int .i64 a0).wf = true → (Lit.int .i64 a1).wf = true → (l2.length ≤ maxLen ∧ l2.length * 24 ≤ 140737488351232 ∧ ∀ y0 ∈ l2, (y0.length ≤ maxLen ∧ y0.length * 1 ≤ 140737488351232 ∧ ∀ y1 ∈ y0, (Lit.int .u8 y1).wf = true)) → (l3.length ≤ maxLen ∧ l3.length * 8 ≤ 140737488351232 ∧ ∀ y0 ∈ l3, (Lit.int .i64 y0).wf = true) → ∃ k, twoslotlaw04_CodecAny.ok k a0 a1 l2 l3 := fun a0 a1 l2 l3 _ _ hl _ => by
  obtain ⟨k0, hk0⟩ : ∃ k0, 1000 ≤ k0 := ⟨1000, Nat.le_refl _⟩
  exact ⟨k0, any_ok hk0 (fun r hr => isB_wf ((hl.2.2 r hr).2.2))⟩
end Go.Proofs.Ythhncoogmncdkaa.Pure
