/- MatrixProducts, in plain Lean: products go by rows and columns, do not hang on brackets, and turn round when turned; ranks; for every input. No condition. -/
import Derived.Test.YtmeckhfoajfapaaPAx15
import Derived.Test.YtmeckhfoajfapaaMxFun
namespace Go.Proofs.Ytmeckhfoajfapaa.Pure
open Go Go.RowKit Go.TwoGf Go.TwoLin Go.Proofs.Ytmeckhfoajfapaa Go.Proofs.Ytmeckhfoajfapaa.PA Go.Proofs.YtmeckhfoajfapaaW.PrintWords Go.Proofs.YtmeckhfoajfapaaW.PrintLast
set_option linter.unusedVariables false
theorem pr_l2 {a b c : List (List Int)} {n p q : Nat} (ha : isM a) (hb : isM b) (ra : rect n p a) (rb : rect p q b) (h2 : n ≤ 32) (h4 : p ≤ 32) (h6 : q ≤ 32) {i j : Nat} (hi : i < n) (hj : j < q) : ∀ (d k t : Nat), 9 ≤ k → t + d = p →
    twoslotlaw03_MatrixProducts.l2 (k + d + 1) a b c (mkF n q (mm p (cell a) (cell b))) (i : Int) (j : Int) (ofF (sm (List.range t) fun s => cell a i s * cell b s j)) (t : Int) = twoslotlaw03_MatrixProducts.l1 k a b c (mkF n q (mm p (cell a) (cell b))) (i : Int) ((j + 1 : Nat) : Int) := by
  intro d
  induction d with
  | zero =>
    intro k t hk ht
    obtain rfl : t = p := by omega
    simp only [twoslotlaw03_MatrixProducts.l2]
    have hl := (rect_mkF n q (mm t (cell a) (cell b))).1
    have hr : (rd_L1 (mkF n q (mm t (cell a) (cell b))) (i : Int)).length = q := rect_row (rect_mkF n q _) hi
    rw [rb.1, if_neg (by omega), if_pos (by omega), hl, if_pos (by omega), if_pos (by omega), hr, if_pos (by omega), if_pos (show rd (rd_L1 (mkF n q (mm t (cell a) (cell b))) (i : Int)) (j : Int) = ofF (sm (List.range t) fun s => cell a i s * cell b s j) from rd_mkF hi hj), w64 (by omega)]
  | succ d ih =>
    intro k t hk ht
    rw [← ih k (t + 1) hk (by omega), show k + (d + 1) + 1 = (k + d + 1) + 1 by omega]
    conv => lhs; unfold twoslotlaw03_MatrixProducts.l2
    have hra : (rd_L1 a (i : Int)).length = p := rect_row ra hi
    have hrb : (rd_L1 b (t : Int)).length = q := rect_row rb (by omega)
    have e : (sm (List.range (t + 1)) fun s => cell a i s * cell b s j) = (sm (List.range t) fun s => cell a i s * cell b s j) + toF (rd (rw_ a i) (t : Int)) * toF (rd (rw_ b t) (j : Int)) := sn_succ t _
    rw [rb.1, if_pos (by omega), if_pos (by omega), ra.1, if_pos (by omega), if_pos (by omega), hra, if_pos (by omega), if_pos (by omega), hrb, if_pos (by omega), rdL, rdL, mul_v (by omega) (rd_B (rw_B ha i) t) (rd_B (rw_B hb t) j), Option.bind_some]
    unfold gf_Add.f
    rw [Option.bind_some, xor_v (ofF_rng _) (ofF_rng _), toF_ofF, toF_ofF, w64 (by omega), e]
theorem pr_l1 {a b c : List (List Int)} {n p q : Nat} (ha : isM a) (hb : isM b) (ra : rect n p a) (rb : rect p q b) (h2 : n ≤ 32) (h3 : 1 ≤ p) (h4 : p ≤ 32) (h6 : q ≤ 32) {i : Nat} (hi : i < n) : ∀ (d k j : Nat), 9 ≤ k → j + d = q →
    twoslotlaw03_MatrixProducts.l1 (k + d * (p + 2) + 1) a b c (mkF n q (mm p (cell a) (cell b))) (i : Int) (j : Int) = twoslotlaw03_MatrixProducts.l0 k a b c (mkF n q (mm p (cell a) (cell b))) ((i + 1 : Nat) : Int) := by
  intro d
  induction d with
  | zero =>
    intro k j hk hj
    rw [Nat.zero_mul, Nat.add_zero]
    conv => lhs; unfold twoslotlaw03_MatrixProducts.l1
    have hrb : (rd_L1 b 0).length = q := rect_row rb (by omega)
    rw [rb.1, if_pos (by omega), hrb, if_neg (by omega), w64 (by omega)]
  | succ d ih =>
    intro k j hk hj
    rw [← ih k (j + 1) hk (by omega), ← pr_l2 ha hb ra rb h2 h4 h6 hi (by omega) p (k + d * (p + 2) + 1) 0 (by omega) (by omega), show k + (d + 1) * (p + 2) + 1 = (k + d * (p + 2) + 1 + p + 1) + 1 by rw [Nat.succ_mul]; omega]
    conv => lhs; unfold twoslotlaw03_MatrixProducts.l1
    have hrb : (rd_L1 b 0).length = q := rect_row rb (by omega)
    rw [rb.1, if_pos (by omega), hrb, if_pos (by omega)]
    rfl
theorem pr_l0 {a b c : List (List Int)} {n p q : Nat} (ha : isM a) (hb : isM b) (ra : rect n p a) (rb : rect p q b) (h2 : n ≤ 32) (h3 : 1 ≤ p) (h4 : p ≤ 32) (h6 : q ≤ 32) : ∀ (d k i : Nat), 9 ≤ k → i + d = n →
    twoslotlaw03_MatrixProducts.l0 (k + d * (q * (p + 2) + 2)) a b c (mkF n q (mm p (cell a) (cell b))) (i : Int) = twoslotlaw03_MatrixProducts.l0 k a b c (mkF n q (mm p (cell a) (cell b))) (n : Int) := by
  intro d
  induction d with
  | zero =>
    intro k i hk hi
    obtain rfl : i = n := by omega
    rw [Nat.zero_mul, Nat.add_zero]
  | succ d ih =>
    intro k i hk hi
    rw [← ih k (i + 1) hk (by omega), ← pr_l1 ha hb ra rb h2 h3 h4 h6 (i := i) (by omega) q (k + d * (q * (p + 2) + 2)) 0 (by omega) (by omega), show k + (d + 1) * (q * (p + 2) + 2) = (k + d * (q * (p + 2) + 2) + q * (p + 2) + 1) + 1 by rw [Nat.succ_mul]; omega]
    conv => lhs; unfold twoslotlaw03_MatrixProducts.l0
    rw [ra.1, if_pos (by omega)]
    rfl
theorem pr_tail {k : Nat} (hk : 1100 ≤ k) {a b c : List (List Int)} (ha : isM a) (hb : isM b) (hc : isM c) (ga : good a) (gb : good b) (hab : (rw_ a 0).length = b.length) :
    twoslotlaw03_MatrixProducts.l0 k a b c (mkF a.length (rw_ b 0).length (mm b.length (cell a) (cell b))) (a.length : Int) = some true := by
  have ra := good_rect ga
  have rb := good_rect gb
  obtain ⟨ga1, ga2, ga3, ga4, _⟩ := id ga
  obtain ⟨gb1, gb2, gb3, gb4, _⟩ := id gb
  rw [hab] at ra ga3 ga4
  generalize hn : a.length = n at *
  generalize hp : b.length = p at *
  generalize hq : (rw_ b 0).length = q at *
  obtain ⟨M, hM⟩ : ∃ M, M = mkF n q (mm p (cell a) (cell b)) := ⟨_, rfl⟩
  have rM : rect n q M := by rw [hM]; exact rect_mkF _ _ _
  have bMM : isM M := by rw [hM]; exact isM_mkF _ _ _
  have cM : ∀ i j, i < n → j < q → cell M i j = mm p (cell a) (cell b) i j := fun i j hi hj => by rw [hM, cell_mkF hi hj]
  rw [← hM]
  clear hM
  obtain ⟨gM, lM, wM⟩ := good_of rM ga1 ga2 gb3 gb4
  obtain ⟨gt, lt, wt⟩ := good_of (rect_mkF p n (tp (cell a))) ga3 ga4 ga1 ga2
  obtain ⟨gu, lu, wu⟩ := good_of (rect_mkF q p (tp (cell b))) gb3 gb4 gb1 gb2
  obtain ⟨k, rfl⟩ : ∃ q, k = q + 1 := ⟨k - 1, by omega⟩
  conv => lhs; unfold twoslotlaw03_MatrixProducts.l0
  rw [hn, if_neg (by omega), turned_f (by omega) ha ga, Option.bind_some, turned_f (by omega) hb gb, Option.bind_some, turned_f (by omega) bMM gM, Option.bind_some]
  dsimp only
  rw [if_pos rfl, if_pos rfl, hab, hn, hq, hp, lM, wM]
  obtain ⟨k, rfl⟩ : ∃ q, k = q + 1 := ⟨k - 1, by omega⟩
  rw [twoslotlaw03_MatrixProducts.j4]
  rw [if_neg (by decide), mul_fn (by omega) (isM_mkF _ _ _) (isM_mkF _ _ _) gu gt (by rw [lt, wu]), Option.bind_some, lu, wt, lt]
  obtain ⟨r, hr, hrk⟩ := rank_f (k := k) (by omega) ha ga
  obtain ⟨s, hs, hsk⟩ := rank_f (k := k) (by omega) (isM_mkF p n (tp (cell a))) gt
  obtain ⟨z, hz, hzk⟩ := rank_f (k := k) (by omega) bMM gM
  rw [hn, hab] at hrk
  rw [lt, wt] at hsk
  rw [lM, wM] at hzk
  have e1 : s = r := Rk_unique (Rk_congr (fun i j hi hj => cell_mkF hi hj) hsk) (Rk_tp hrk)
  have e2 : z ≤ r := Rk_mul hrk (Rk_congr cM hzk)
  have e3 := Rk_rows hrk
  have e4 := Rk_cols hrk
  have e5 : mkF q n (mm p (cell (mkF q p (tp (cell b)))) (cell (mkF p n (tp (cell a))))) = mkF q n (tp (cell M)) := mkF_congr fun i j hi hj => by
    have : mm p (cell (mkF q p (tp (cell b)))) (cell (mkF p n (tp (cell a)))) i j = mm p (tp (cell b)) (tp (cell a)) i j := mm_congr (fun t ht => cell_mkF hi ht) fun t ht => cell_mkF ht hj
    rw [this, mm_tp]
    exact (cM j i hj hi).symm
  rw [hr, Option.bind_some, hs, Option.bind_some, hz, Option.bind_some]
  dsimp only
  rw [if_pos rfl, if_pos rfl, if_pos rfl, if_pos rfl, e5, same_f (by rw [(rect_mkF _ _ _).1]; omega) (by rw [(rect_mkF _ _ _).1]; omega) rfl, Option.bind_some, if_pos rfl, e1, if_pos rfl, hn, if_neg (by omega), if_pos (by omega), if_neg (show ¬ (r : Int) > ((rd_L1 a 0).length : Int) by rw [rdL0, hab]; omega)]
  obtain ⟨k, rfl⟩ : ∃ q, k = q + 1 := ⟨k - 1, by omega⟩
  rw [twoslotlaw03_MatrixProducts.j5]
  rw [if_neg (show ¬ decide ((z : Int) > (r : Int)) = true by simp; omega)]
  by_cases hgc : good c ∧ q = c.length
  · obtain ⟨gc, hqc⟩ := hgc
    have rc := good_rect gc
    obtain ⟨gc1, gc2, gc3, gc4, _⟩ := id gc
    generalize hm : (rw_ c 0).length = m at *
    rw [mul_fn (by omega) bMM hc gM gc (by rw [wM, hqc]), Option.bind_some, mul_fn (by omega) hb hc gb gc (by rw [hq, hqc]), Option.bind_some]
    dsimp only
    rw [if_pos rfl, lM, hm, hp, ← hqc]
    obtain ⟨k, rfl⟩ : ∃ q, k = q + 1 := ⟨k - 1, by omega⟩
    rw [twoslotlaw03_MatrixProducts.j6]
    obtain ⟨gy, ly, wy⟩ := good_of (rect_mkF p m (mm q (cell b) (cell c))) gb1 gb2 gc3 gc4
    rw [if_neg (by decide), mul_fn (by omega) ha (isM_mkF _ _ _) ga gy (by rw [hab, ly]), Option.bind_some, hn, wy, ly]
    dsimp only
    rw [if_pos rfl, same_f (by rw [(rect_mkF _ _ _).1]; omega) (by rw [(rect_mkF _ _ _).1]; omega) (mkF_congr fun i j hi hj => ?_)]
    · rfl
    · have f1 : mm q (cell M) (cell c) i j = mm q (mm p (cell a) (cell b)) (cell c) i j := mm_congr (fun t ht => cM i t hi ht) fun _ _ => rfl
      have f2 : mm p (cell a) (cell (mkF p m (mm q (cell b) (cell c)))) i j = mm p (cell a) (mm q (cell b) (cell c)) i j := mm_congr (fun _ _ => rfl) fun t ht => cell_mkF ht hj
      rw [f1, f2, mm_assoc]
  · rw [mul_bad (by omega) (fun z => hgc ⟨z.2.1, by rw [← z.2.2, wM]⟩), Option.bind_some, mul_bad (by omega) (fun z => hgc ⟨z.2.1, by rw [← z.2.2, hq]⟩), Option.bind_some]
    dsimp only
    rw [if_neg (by decide)]
    obtain ⟨k, rfl⟩ : ∃ q, k = q + 1 := ⟨k - 1, by omega⟩
    rw [twoslotlaw03_MatrixProducts.j6]
    rw [if_pos rfl, if_neg (by decide)]
    rfl
theorem products_law {k : Nat} (hk : 1100 ≤ k) {a b c : List (List Int)} (ha : isM a) (hb : isM b) (hc : isM c) : ∃ K, twoslotlaw03_MatrixProducts.f K a b c = some true := by
  by_cases hg : good a ∧ good b ∧ (rw_ a 0).length = b.length
  · obtain ⟨ga, gb, hab⟩ := hg
    have ra := good_rect ga
    rw [hab] at ra
    have hl := pr_l0 (c := c) ha hb ra (good_rect gb) ga.2.1 gb.1 gb.2.1 gb.2.2.2.1 a.length k 0 (by omega) (by omega)
    have ht := pr_tail hk ha hb hc ga gb hab
    rw [ht] at hl
    generalize hK : k + a.length * ((rw_ b 0).length * (b.length + 2) + 2) = K at hl
    have hKk : k ≤ K := by omega
    clear hK
    refine ⟨K + 1, ?_⟩
    unfold twoslotlaw03_MatrixProducts.f
    have hj : ∀ x, twoslotlaw03_MatrixProducts.j0 (K + 1) a b c x = some true := fun x => by
      rw [twoslotlaw03_MatrixProducts.j0]
      cases x with
      | true => rw [if_pos rfl]
      | false =>
        rw [if_neg (by decide), mul_fn (by omega) ha hb ga gb hab, Option.bind_some]
        dsimp only
        rw [if_pos rfl]
        exact hl
    rw [alive_f (by omega), Option.bind_some, if_pos rfl]
    rcases much_f (k := K + 1) (by omega) a with hm | ⟨hm, _⟩
    · rw [hm, Option.bind_some, if_pos rfl]; exact hj _
    rw [hm, Option.bind_some, if_neg (by decide)]
    rcases much_f (k := K + 1) (by omega) b with hm | ⟨hm, _⟩
    · rw [hm, Option.bind_some, if_pos rfl]; exact hj _
    rw [hm, Option.bind_some, if_neg (by decide)]
    rcases much_f (k := K + 1) (by omega) c with hm | ⟨hm, _⟩
    · rw [hm, Option.bind_some]; exact hj _
    · rw [hm, Option.bind_some]; exact hj _
  · refine ⟨k + 1, ?_⟩
    unfold twoslotlaw03_MatrixProducts.f
    have hj : ∀ x, twoslotlaw03_MatrixProducts.j0 (k + 1) a b c x = some true := fun x => by
      rw [twoslotlaw03_MatrixProducts.j0]
      cases x with
      | true => rw [if_pos rfl]
      | false =>
        rw [if_neg (by decide), mul_bad (by omega) hg, Option.bind_some]
        dsimp only
        rw [if_neg (by decide), if_pos (show ((([] : List (List Int)).length : Nat) : Int) = 0 from rfl), check_f (by omega), Option.bind_some]
        unfold ckv
        by_cases ga : good a
        · rw [if_pos ga, if_pos rfl, check_f (by omega), Option.bind_some]
          unfold ckv
          by_cases gb : good b
          · rw [if_pos gb, if_pos rfl, if_pos (by have := ga.1; omega)]
            have : (((rd_L1 a 0).length : Int) != (b.length : Int)) = true := bne_iff_ne.mpr (fun z => hg ⟨ga, gb, by rw [rdL0] at z; omega⟩)
            rw [this]
          · rw [if_neg gb, if_neg (by decide)]
        · rw [if_neg ga, if_neg (by decide)]
    rw [alive_f (by omega), Option.bind_some, if_pos rfl]
    rcases much_f (k := k + 1) (by omega) a with hm | ⟨hm, _⟩
    · rw [hm, Option.bind_some, if_pos rfl]; exact hj _
    rw [hm, Option.bind_some, if_neg (by decide)]
    rcases much_f (k := k + 1) (by omega) b with hm | ⟨hm, _⟩
    · rw [hm, Option.bind_some, if_pos rfl]; exact hj _
    rw [hm, Option.bind_some, if_neg (by decide)]
    rcases much_f (k := k + 1) (by omega) c with hm | ⟨hm, _⟩
    · rw [hm, Option.bind_some]; exact hj _
    · rw [hm, Option.bind_some]; exact hj _
theorem MatrixProducts : twoslotlaw03_MatrixProducts.Pure := fun l0 l1 l2 h h' h'' => by
  obtain ⟨k, hk⟩ : ∃ k, 1100 ≤ k := ⟨1100, Nat.le_refl _⟩
  exact products_law hk (fun r hr => isB_wf (h.2.2 r hr).2.2) (fun r hr => isB_wf (h'.2.2 r hr).2.2) (fun r hr => isB_wf (h''.2.2 r hr).2.2)
end Go.Proofs.Ytmeckhfoajfapaa.Pure
