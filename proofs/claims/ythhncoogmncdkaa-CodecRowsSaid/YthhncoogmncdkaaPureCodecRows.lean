/- CodecRows, in plain Lean: parity is made by its rows, and the parity of a sum is the sum of the parities, for every input. No condition. -/
import Derived.Test.YthhncoogmncdkaaPAx22
import Derived.Test.YthhncoogmncdkaaPAx24
namespace Go.Proofs.Ythhncoogmncdkaa.Pure
open Go Go.RowKit Go.TwoGf Go.TwoLin Go.Proofs.Ythhncoogmncdkaa Go.Proofs.Ythhncoogmncdkaa.PA Go.Proofs.YthhncoogmncdkaaW.PrintWords Go.Proofs.YthhncoogmncdkaaW.PrintLast Go.Proofs.YthhncoogmncdkaaW.PrintMore
set_option linter.unusedVariables false
theorem wkr' {k r : Nat} (hk : k ≤ 12) (hr : r ≤ 4) : wrap64 ((k : Int) + (r : Int)) = ((k + r : Nat) : Int) := by unfold wrap64; omega
/-- sums of rows -/
def sums (a b : List (List Int)) (k : Nat) : List (List Int) := (List.range k).map fun q => addv (rw_ a q) 1 (rw_ b q)
theorem sums_len (a b : List (List Int)) (k : Nat) : (sums a b k).length = k := by simp [sums]
theorem sums_rw {a b : List (List Int)} {k i : Nat} (hi : i < k) : rw_ (sums a b k) i = addv (rw_ a i) 1 (rw_ b i) := by rw [rw_lt (by rw [sums_len]; exact hi)]; simp [sums]
theorem sums_succ (a b : List (List Int)) (k : Nat) : sums a b (k + 1) = sums a b k ++ [addv (rw_ a k) 1 (rw_ b k)] := by simp [sums, List.range_succ]
theorem sums_rect {a b : List (List Int)} {k n : Nat} (ha : rect k n a) (hb : rect k n b) : rect k n (sums a b k) := ⟨sums_len a b k, fun y hy => by
  simp only [sums, List.mem_map] at hy
  obtain ⟨q, hq, rfl⟩ := hy
  have hq := List.mem_range.1 hq
  rw [addv_len _ (by rw [rect_row ha hq, rect_row hb hq]; exact Nat.le_refl _), rect_row ha hq]⟩
theorem sums_isM {a b : List (List Int)} (ha : isM a) (k : Nat) : isM (sums a b k) := fun y hy => by
  simp only [sums, List.mem_map] at hy
  obtain ⟨q, hq, rfl⟩ := hy
  exact addv_B _ (rw_B ha q)
theorem toF_one : toF 1 = 1 := rfl
theorem sums_cell {a b : List (List Int)} {k n i j : Nat} (ha : rect k n a) (hb : rect k n b) (ma : isM a) (mb : isM b) (hi : i < k) (hj : j < n) : cell (sums a b k) i j = cell a i j + cell b i j := by
  have e : cell (sums a b k) i j = toF (rd (addv (rw_ a i) 1 (rw_ b i)) (j : Int)) := by unfold cell; rw [sums_rw hi]
  rw [e, addv_F (rw_B ma i) (rw_B mb i) (by decide) (by rw [rect_row ha hi]; exact hj) (by rw [rect_row hb hi]; exact hj), toF_one, one_mul]
  rfl
theorem coded_sum {a b rs : List (List Int)} {k n m i : Nat} (ha : rect k n a) (hb : rect k n b) (ma : isM a) (mb : isM b) (hr : rect m k rs) (mr : isM rs) (hi : i < m) :
    rw_ (coded n rs (sums a b k)) i = addv (rw_ (coded n rs a) i) 1 (rw_ (coded n rs b) i) := by
  have c1 : rect m n (coded n rs (sums a b k)) := by have := coded_rect (rs := rs) (sums_rect ha hb); rwa [hr.1] at this
  have c2 : rect m n (coded n rs a) := by have := coded_rect (rs := rs) ha; rwa [hr.1] at this
  have c3 : rect m n (coded n rs b) := by have := coded_rect (rs := rs) hb; rwa [hr.1] at this
  have l1 := rect_row c1 hi
  have l2 := rect_row c2 hi
  have l3 := rect_row c3 hi
  have l4 : (addv (rw_ (coded n rs a) i) 1 (rw_ (coded n rs b) i)).length = n := by rw [addv_len _ (by rw [l2, l3]; exact Nat.le_refl _), l2]
  refine ext_rd (l1.trans l4.symm) fun j hj => ?_
  rw [l1] at hj
  have b4 : isB (addv (rw_ (coded n rs a) i) 1 (rw_ (coded n rs b) i)) := addv_B _ (rw_B (coded_isM n rs a) i)
  rw [← ofF_toF (rd_B b4 j), addv_F (rw_B (coded_isM n rs a) i) (rw_B (coded_isM n rs b) i) (by decide) (by rw [l2]; exact hj) (by rw [l3]; exact hj), toF_one, one_mul, cell_rd (coded_isM _ _ _)]
  congr 1
  rw [coded_cell mr hr (sums_isM ma k) (sums_rect ha hb) hi hj]
  show _ = cell (coded n rs a) i j + cell (coded n rs b) i j
  rw [coded_cell mr hr ma ha hi hj, coded_cell mr hr mb hb hi hj]
  unfold mm
  rw [show sn k (fun q => cell rs i q * cell (sums a b k) q j) = sn k (fun q => cell rs i q * cell a q j + cell rs i q * cell b q j) from sn_congr fun q hq => by rw [sums_cell ha hb ma mb hq hj, mul_add]]
  exact sm_add _ _ _
theorem drop_rect (k r : Nat) : rect r k ((codec_Row.M k r).drop k) := ⟨by rw [List.length_drop, (allM_rect k r).1]; omega, fun x hx => (allM_rect k r).2 x (List.mem_of_mem_drop hx)⟩
theorem drop_isM {k r : Nat} (hk : k ≤ 12) (hr : r ≤ 4) : isM ((codec_Row.M k r).drop k) := fun x hx => allM_B hk hr x (List.mem_of_mem_drop hx)
theorem par_rw {k r n i : Nat} {a : List (List Int)} (hi : i < r) : rw_ (coded n ((codec_Row.M k r).drop k) a) i = dacc (List.replicate n 0) (rw_ (codec_Row.M k r) (k + i)) a := by
  rw [rw_lt (by unfold coded; rw [List.length_map, (drop_rect k r).1]; exact hi), rw_lt (by rw [(allM_rect k r).1]; omega)]
  simp [coded, List.getElem_drop]
theorem xor_ok {K : Nat} (hK : 9 ≤ K) {n : Nat} {x y : List Int} (hx : x.length = n) (hy : y.length = n) (hn : n ≤ 65536) (by_ : isB y) : kernel_Xor.f K x y = some (addv x 1 y, 0) := by
  rw [xor_f hK by_]
  unfold plusv
  rw [if_pos ⟨by omega, by omega⟩]
section
variable {k r n : Nat} {a b : List (List Int)} (k1 : 1 ≤ k) (k2 : k ≤ 12) (r4 : r ≤ 4) (n1 : 1 ≤ n) (n2 : n ≤ 65536) (ha : rect k n a) (ma : isM a)
include k1 k2 r4 n1 n2 ha ma
theorem rows_l2 (hb : rect k n b) (mb : isM b) : ∀ (d K i : Nat), i + d = r → d + 20 ≤ K →
    twoslotlaw04_CodecRows.l2 K (r : Int) (coded n ((codec_Row.M k r).drop k) a) (coded n ((codec_Row.M k r).drop k) b) (coded n ((codec_Row.M k r).drop k) (sums a b k)) (i : Int) = some true := by
  have _k1 := k1
  have _n1 := n1
  have cr := drop_rect k r
  have c2 : rect r n (coded n ((codec_Row.M k r).drop k) a) := by have := coded_rect (rs := (codec_Row.M k r).drop k) ha; rwa [cr.1] at this
  have c3 : rect r n (coded n ((codec_Row.M k r).drop k) b) := by have := coded_rect (rs := (codec_Row.M k r).drop k) hb; rwa [cr.1] at this
  have c1 : rect r n (coded n ((codec_Row.M k r).drop k) (sums a b k)) := by have := coded_rect (rs := (codec_Row.M k r).drop k) (sums_rect ha hb); rwa [cr.1] at this
  have hs := fun i hi => coded_sum (rs := (codec_Row.M k r).drop k) (i := i) ha hb ma mb cr (drop_isM k2 r4) hi
  have m3 := coded_isM n ((codec_Row.M k r).drop k) b
  generalize coded n ((codec_Row.M k r).drop k) (sums a b k) = S at c1 hs ⊢
  generalize coded n ((codec_Row.M k r).drop k) a = P at c2 hs ⊢
  generalize coded n ((codec_Row.M k r).drop k) b = Q at c3 hs m3 ⊢
  have p1 := c1.1
  have p2 := c2.1
  have p3 := c3.1
  intro d
  induction d with
  | zero =>
    intro K i hi hK
    obtain ⟨K, rfl⟩ : ∃ q, K = q + 1 := ⟨K - 1, by omega⟩
    rw [twoslotlaw04_CodecRows.l2, if_neg (by omega)]
  | succ d ih =>
    intro K i hi hK
    obtain ⟨K, rfl⟩ : ∃ q, K = q + 1 := ⟨K - 1, by omega⟩
    have hir : i < r := by omega
    rw [twoslotlaw04_CodecRows.l2, if_pos (by omega), if_pos (by omega), if_pos (by omega), if_pos (by omega), rdL, rdL, rdL, xor_ok (by omega) (rect_row c2 hir) (rect_row c3 hir) n2 (rw_B m3 i), Option.bind_some]
    dsimp only
    rw [if_pos rfl, if_pos (by omega), ← hs i hir, if_pos rfl, w64 (i := i) (by omega)]
    exact ih K (i + 1) (by omega) (by omega)
theorem rows_l1 (hb : rect k n b) (mb : isM b) : ∀ (d K i : Nat), i + d = k → d + 300 ≤ K →
    twoslotlaw04_CodecRows.l1 K (k : Int) (r : Int) a b (coded n ((codec_Row.M k r).drop k) a) (coded n ((codec_Row.M k r).drop k) b) (sums a b i) (i : Int) = some true := by
  have h2 := rows_l2 k1 k2 r4 n1 n2 ha ma hb mb
  have he : ∀ K, 200 ≤ K → codec_Encode.f K (k : Int) (r : Int) (sums a b k) = some (coded n ((codec_Row.M k r).drop k) (sums a b k), 0) := fun K hK => by
    have := enc_ok hK (k := (k : Int)) (r := (r : Int)) (data := sums a b k) ⟨by omega, by omega, by omega, by omega⟩ (by rw [sums_len]) (rect_alk n1 n2 (sums_rect ha hb)) (sums_isM ma k)
    rwa [Int.toNat_natCast, Int.toNat_natCast] at this
  generalize coded n ((codec_Row.M k r).drop k) (sums a b k) = S at h2 he
  generalize coded n ((codec_Row.M k r).drop k) a = P at h2 ⊢
  generalize coded n ((codec_Row.M k r).drop k) b = Q at h2 ⊢
  have p1 := ha.1
  have p2 := hb.1
  intro d
  induction d with
  | zero =>
    intro K i hi hK
    obtain ⟨K, rfl⟩ : ∃ q, K = q + 1 := ⟨K - 1, by omega⟩
    obtain rfl : i = k := by omega
    rw [twoslotlaw04_CodecRows.l1, if_neg (by omega), he K (by omega), Option.bind_some]
    dsimp only
    rw [if_pos rfl]
    exact h2 r K 0 (by omega) (by omega)
  | succ d ih =>
    intro K i hi hK
    obtain ⟨K, rfl⟩ : ∃ q, K = q + 1 := ⟨K - 1, by omega⟩
    have hik : i < k := by omega
    have hl : (sums a b i).length < 5864062014805 := by rw [sums_len]; omega
    rw [twoslotlaw04_CodecRows.l1, if_pos (by omega), if_pos (by omega), if_pos (by omega), if_pos (by omega), rdL, rdL, xor_ok (by omega) (rect_row ha hik) (rect_row hb hik) n2 (rw_B mb i), Option.bind_some]
    dsimp only
    rw [if_pos rfl, if_pos hl, ← sums_succ, w64 (i := i) (by omega)]
    exact ih K (i + 1) (by omega) (by omega)
theorem rows_l0 (mb : isM b) : ∀ (d K i : Nat), i + d = r → d + 400 ≤ K →
    twoslotlaw04_CodecRows.l0 K (k : Int) (r : Int) a b (coded n ((codec_Row.M k r).drop k) a) (i : Int) = some true := by
  have hla := ha.1
  have hal := rect_alk n1 n2 ha
  have hpl : (coded n ((codec_Row.M k r).drop k) a).length = r := by unfold coded; rw [List.length_map, (drop_rect k r).1]
  have hp := fun i hi => par_rw (k := k) (r := r) (n := n) (i := i) (a := a) hi
  have hend : ∀ K, 350 ≤ K → ((codec_Encode.f K (k : Int) (r : Int) b).bind fun bt246 => (if bt246.2 = 0 then (if 0 < (b.length : Int) then (if 0 < (a.length : Int) then (twoslotlaw04_CodecRows.j2 K (k : Int) (r : Int) a b (coded n ((codec_Row.M k r).drop k) a) bt246.1 (((rd_L1 b 0).length : Int) != ((rd_L1 a 0).length : Int))) else (none)) else (none)) else (twoslotlaw04_CodecRows.j2 K (k : Int) (r : Int) a b (coded n ((codec_Row.M k r).drop k) a) bt246.1 true))) = some true := fun K hK => by
    obtain ⟨K', rfl⟩ : ∃ q, K = q + 1 := ⟨K - 1, by omega⟩
    rcases enc_any (K := K' + 1) (by omega) (k := (k : Int)) (r := (r : Int)) b with ⟨h1, h2, m, h3⟩ | ⟨e, h1, h2⟩
    · have hm : ∀ x ∈ b, x.length = m := fun x hx => (h3 x hx).2.2
      have hbl : b.length = k := by omega
      have he := enc_ok (K := K' + 1) (by omega) h1 h2 h3 mb
      rw [Int.toNat_natCast, Int.toNat_natCast] at he
      rw [he, Option.bind_some]
      dsimp only
      rw [if_pos rfl, if_pos (by omega), if_pos (by omega), rdL0, rdL0, rect_row ha (by omega), rect_row ⟨hbl, hm⟩ (by omega)]
      by_cases e : m = n
      · subst e
        rw [show ((m : Int) != (m : Int)) = false from bne_self_eq_false _, twoslotlaw04_CodecRows.j2, if_neg (by decide)]
        exact rows_l1 k1 k2 r4 n1 n2 ha ma ⟨hbl, hm⟩ mb k K' 0 (by omega) (by omega)
      · rw [show ((m : Int) != (n : Int)) = true from bne_iff_ne.2 (by omega), twoslotlaw04_CodecRows.j2, if_pos rfl]
    · rw [h2, Option.bind_some]
      dsimp only
      rw [if_neg h1, twoslotlaw04_CodecRows.j2, if_pos rfl]
  generalize coded n ((codec_Row.M k r).drop k) a = P at hpl hp hend ⊢
  intro d
  induction d with
  | zero =>
    intro K i hi hK
    obtain ⟨K, rfl⟩ : ∃ q, K = q + 1 := ⟨K - 1, by omega⟩
    rw [twoslotlaw04_CodecRows.l0, if_neg (by omega)]
    exact hend K (by omega)
  | succ d ih =>
    intro K i hi hK
    obtain ⟨K, rfl⟩ : ∃ q, K = q + 1 := ⟨K - 1, by omega⟩
    have hir : i < r := by omega
    have hrow : codec_Row.f (k : Int) (r : Int) (wrap64 ((k : Int) + (i : Int))) = some (rw_ (codec_Row.M k r) (k + i), 0) := by
      rw [wkr' k2 (by omega), row_f (by omega) (by omega) (by omega) (by omega) (by omega) (by omega), Int.toNat_natCast, Int.toNat_natCast, Int.toNat_natCast]
    have hdot : kernel_Dot.f K (rw_ (codec_Row.M k r) (k + i)) a = some (rw_ P i, 0) := by
      rw [dot_v (n := n) (by omega) (rw_B (allM_B k2 r4) _) ma hal (by omega) (by omega) (by rw [rect_row (allM_rect k r) (by omega)]; omega), hp i hir]
    rw [twoslotlaw04_CodecRows.l0, if_pos (by omega), hrow, Option.bind_some]
    dsimp only
    rw [hdot, Option.bind_some]
    dsimp only
    rw [if_pos rfl, if_pos rfl, if_pos (by omega), if_pos (by omega), rdL, if_pos rfl, w64 (i := i) (by omega)]
    exact ih K (i + 1) (by omega) (by omega)
end
theorem rows_law {K : Nat} (hK : 1000 ≤ K) {x y : Int} {a b : List (List Int)} (ma : isM a) (mb : isM b) : twoslotlaw04_CodecRows.f K x y a b = some true := by
  obtain ⟨K, rfl⟩ : ∃ q, K = q + 1 := ⟨K - 1, by omega⟩
  unfold twoslotlaw04_CodecRows.f
  rw [alive_f (by omega), Option.bind_some, if_pos rfl]
  rcases much_f (K := K + 1) (by omega) a with h1 | ⟨h1, _⟩
  · rw [h1, Option.bind_some, if_pos rfl, twoslotlaw04_CodecRows.j0, if_pos rfl]
  rw [h1, Option.bind_some, if_neg (by decide)]
  rcases much_f (K := K + 1) (by omega) b with h2 | ⟨h2, _⟩
  · rw [h2, Option.bind_some, twoslotlaw04_CodecRows.j0, if_pos rfl]
  rw [h2, Option.bind_some, twoslotlaw04_CodecRows.j0, if_neg (by decide)]
  rcases enc_any (K := K) (by omega) (k := x) (r := y) a with ⟨h3, h4, n, h5⟩ | ⟨e, h3, h4⟩
  · have he := enc_ok (K := K) (by omega) h3 h4 h5 ma
    rw [he, Option.bind_some]
    dsimp only
    rw [if_pos rfl]
    obtain ⟨g1, g2, g3, g4⟩ := h3
    obtain ⟨k, rfl⟩ := Int.eq_ofNat_of_zero_le (show 0 ≤ x by omega)
    obtain ⟨r, rfl⟩ := Int.eq_ofNat_of_zero_le (show 0 ≤ y by omega)
    have hra : rect k n a := ⟨by omega, fun z hz => (h5 z hz).2.2⟩
    have hn : 1 ≤ n ∧ n ≤ 65536 := by
      have := h5 _ (rw_mem (M := a) (i := 0) (by omega))
      omega
    exact rows_l0 (by omega) (by omega) (by omega) hn.1 hn.2 hra ma mb r K 0 (by omega) (by omega)
  · rw [h4, Option.bind_some]
    dsimp only
    rw [if_neg h3]
theorem CodecRows : twoslotlaw04_CodecRows.Pure := fun x y a b _ _ ha hb => by
  obtain ⟨k0, hk0⟩ : ∃ k0, 1000 ≤ k0 := ⟨1000, Nat.le_refl _⟩
  exact ⟨k0, rows_law hk0 (fun r hr => isB_wf ((ha.2.2 r hr).2.2)) (fun r hr => isB_wf ((hb.2.2 r hr).2.2))⟩
end Go.Proofs.Ythhncoogmncdkaa.Pure
