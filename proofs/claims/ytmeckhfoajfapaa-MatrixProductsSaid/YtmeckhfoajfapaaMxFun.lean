/- What the functions of the package matrix come to, on bytes. No condition. -/
import Derived.Test.YtmeckhfoajfapaaPAx6
import Derived.Test.YtmeckhfoajfapaaPAx3
import Derived.Test.YtmeckhfoajfapaaPAx14
import Derived.Test.YtmeckhfoajfapaaPAx7
import Derived.Test.YtmeckhfoajfapaaPAx6
import Derived.Test.YtmeckhfoajfapaaPAx7
import Derived.Test.YtmeckhfoajfapaaPAx7
import Derived.Test.YtmeckhfoajfapaaPAx13
import Derived.Test.YtmeckhfoajfapaaPAx14
import Derived.Test.YtmeckhfoajfapaaPAx14
import Derived.Test.YtmeckhfoajfapaaMxSol
namespace Go.Proofs.Ytmeckhfoajfapaa.Pure
open Go Go.RowKit Go.TwoGf Go.TwoLin Go.Proofs.Ytmeckhfoajfapaa Go.Proofs.Ytmeckhfoajfapaa.PA Go.Proofs.YtmeckhfoajfapaaW.PrintWords Go.Proofs.YtmeckhfoajfapaaW.PrintLast
set_option linter.unusedVariables false
theorem oneM (n : Nat) : matrix_One.M n = mkF n n dl := by
  unfold matrix_One.M mkF
  refine List.map_congr_left fun i _ => List.map_congr_left fun j _ => ?_
  unfold dl
  by_cases h : i = j
  · rw [if_pos h, if_pos h]; rfl
  · rw [if_neg h, if_neg h]; rfl
theorem one_f {n : Nat} (h1 : 1 ≤ n) (h2 : n ≤ 32) : matrix_One.f (n : Int) = some (mkF n n dl, 0) := by
  unfold matrix_One.f
  rw [if_neg (by omega), if_neg (by omega), Int.toNat_natCast, oneM]
theorem one_bad {a : Int} (h : a < 1 ∨ a > 32) : matrix_One.f a = some ([], 2) := by
  unfold matrix_One.f
  by_cases h1 : a < 1
  · rw [if_pos h1]
  · rw [if_neg h1, if_pos (by omega)]
theorem acc_v {k : Nat} (hk : 9 ≤ k) {ra : List Int} {b : List (List Int)} (ha : isB ra) (hb : isM b) (j : Nat) : ∀ (d n : Nat) (x : F), matrix_Mul.acc k ra b j d n (ofF x) = some (ofF (x + sm (List.range' n d) fun q => toF (rd ra (q : Int)) * cell b q j))
  | 0, n, x => by unfold matrix_Mul.acc; rw [List.range'_zero, sm_nil, add_zero]
  | d + 1, n, x => by
    unfold matrix_Mul.acc
    rw [show matrix_Mul.row b (n : Int) = rw_ b n from rfl, mul_v hk (rd_B ha n) (rd_B (rw_B hb n) j), Option.bind_some, xor_v (ofF_rng x) (ofF_rng _), toF_ofF, toF_ofF, acc_v hk ha hb j d (n + 1), List.range'_succ, sm_cons, add_assoc]
    rfl
theorem mulo_v {k : Nat} (hk : 9 ≤ k) {a b : List (List Int)} (ha : isM a) (hb : isM b) (i j : Nat) : matrix_Mul.o k a b i j = some (ofF (mm b.length (cell a) (cell b) i j)) := by
  unfold matrix_Mul.o
  have h := acc_v (k := k) hk (ra := matrix_Mul.row a (i : Int)) (b := b) (rw_B ha i) hb j b.length 0 0
  rw [zero_add, ← List.range_eq_range'] at h
  exact h
theorem mul_fn {k : Nat} (hk : 40 ≤ k) {a b : List (List Int)} (ha : isM a) (hb : isM b) (ga : good a) (gb : good b) (hab : (rw_ a 0).length = b.length) :
    matrix_Mul.f k a b = some (mkF a.length (rw_ b 0).length (mm b.length (cell a) (cell b)), 0) := by
  unfold matrix_Mul.f
  rw [check_f hk, check_f hk]
  unfold ckv
  rw [if_pos ga, if_pos gb]
  simp only [Option.bind_some, if_true]
  have ok : matrix_Mul.ok a b := ⟨by have := ga.1; omega, by have := ga.2.1; omega, by have := gb.1; omega, by have := gb.2.1; omega, by have := gb.2.2.2.1; exact Nat.le_trans this (by decide), ga.2.2.2.2, gb.2.2.2.2⟩
  have all : matrix_Mul.all k a b := fun i _ j _ => by rw [mulo_v (by omega) ha hb]; rfl
  rw [if_pos ok, if_pos (show (matrix_Mul.row a 0).length = b.length from hab), if_pos all]
  congr 2
  unfold matrix_Mul.M mkF
  refine List.map_congr_left fun i _ => ?_
  refine List.map_congr_left fun j _ => ?_
  unfold matrix_Mul.G
  rw [mulo_v (by omega) ha hb]
  rfl
theorem mul_bad {k : Nat} (hk : 40 ≤ k) {a b : List (List Int)} (h : ¬ (good a ∧ good b ∧ (rw_ a 0).length = b.length)) : matrix_Mul.f k a b = some ([], 30) := by
  unfold matrix_Mul.f
  rw [check_f hk, check_f hk]
  unfold ckv
  by_cases ga : good a
  · rw [if_pos ga]
    simp only [Option.bind_some, if_true]
    by_cases gb : good b
    · rw [if_pos gb]
      simp only [if_true]
      have ok : matrix_Mul.ok a b := ⟨by have := ga.1; omega, by have := ga.2.1; omega, by have := gb.1; omega, by have := gb.2.1; omega, by have := gb.2.2.2.1; exact Nat.le_trans this (by decide), ga.2.2.2.2, gb.2.2.2.2⟩
      rw [if_pos ok, if_neg (show ¬ (matrix_Mul.row a 0).length = b.length from fun z => h ⟨ga, gb, z⟩)]
    · rw [if_neg gb]; rfl
  · rw [if_neg ga]; rfl
theorem turned_f {k : Nat} (hk : 40 ≤ k) {a : List (List Int)} (ha : isM a) (ga : good a) : matrix_Turned.f k a = some (mkF (rw_ a 0).length a.length (tp (cell a)), 0) := by
  unfold matrix_Turned.f
  rw [check_f hk]
  unfold ckv
  rw [if_pos ga]
  simp only [Option.bind_some, if_true]
  rw [if_pos ⟨by have := ga.1; omega, by have := ga.2.1; omega, by have := ga.2.2.2.1; exact Nat.le_trans this (by decide), ga.2.2.2.2⟩]
  congr 2
  unfold matrix_Turned.M mkF
  refine List.map_congr_left fun i _ => ?_
  refine List.map_congr_left fun j _ => ?_
  exact cell_rd ha j i
theorem turned_bad {k : Nat} (hk : 40 ≤ k) {a : List (List Int)} (ga : ¬ good a) : matrix_Turned.f k a = some ([], 30) := by
  unfold matrix_Turned.f
  rw [check_f hk]
  unfold ckv
  rw [if_neg ga]
  rfl
theorem pick_f {k : Nat} (hk : 40 ≤ k) {a : List (List Int)} (ha : isM a) (ga : good a) {l : List Int} (h1 : 1 ≤ l.length) (h2 : l.length ≤ 32) (hl : ∀ x ∈ l, 0 ≤ x ∧ x < a.length) : matrix_Pick.f k a l = some (mkF l.length (rw_ a 0).length (fun i j => cell a (rd l (i : Int)).toNat j), 0) := by
  unfold matrix_Pick.f
  rw [check_f hk]
  unfold ckv
  rw [if_pos ga]
  simp only [Option.bind_some, if_true]
  rw [if_neg (by omega), if_neg (by omega), if_pos hl, if_pos ⟨by have := ga.1; omega, by have := ga.2.1; omega, by have := ga.2.2.2.1; exact Nat.le_trans this (by decide), ga.2.2.2.2⟩]
  congr 2
  unfold matrix_Pick.M mkF
  refine List.map_congr_left fun i _ => ?_
  refine List.map_congr_left fun j _ => ?_
  exact cell_rd ha (rd l (i : Int)).toNat j
theorem pick_bad {k : Nat} (hk : 40 ≤ k) {a : List (List Int)} {l : List Int} (h : ¬ (1 ≤ l.length ∧ l.length ≤ 32 ∧ ∀ x ∈ l, 0 ≤ x ∧ x < a.length)) : matrix_Pick.f k a l = some ([], if good a then 2 else 30) := by
  unfold matrix_Pick.f
  rw [check_f hk]
  unfold ckv
  by_cases ga : good a
  · rw [if_pos ga]
    simp only [Option.bind_some, if_true]
    by_cases h1 : l.length < 1
    · rw [if_pos h1, if_pos ga]
    rw [if_neg h1]
    by_cases h2 : 32 < l.length
    · rw [if_pos h2, if_pos ga]
    rw [if_neg h2, if_neg (fun z => h ⟨by omega, by omega, z⟩), if_pos ga]
  · rw [if_neg ga, if_neg ga]; rfl
theorem pick_ugly {k : Nat} (hk : 40 ≤ k) {a : List (List Int)} {l : List Int} (ga : ¬ good a) : matrix_Pick.f k a l = some ([], 30) := by
  unfold matrix_Pick.f
  rw [check_f hk]
  unfold ckv
  rw [if_neg ga]
  rfl
/-- the parity's numbers -/
def cau (k i j : Nat) : F := inv (toF ((k + i : Nat) : Int) + toF (j : Int))
theorem cauchy_G {k i j : Nat} (hk : k ≤ 12) (hi : i < 4) (hj : j < k) : gf_Inv.f (matrix_Cauchy.at_ (k : Int) i j) = some (ofF (cau k i j), if matrix_Cauchy.at_ (k : Int) i j = 0 then 10 else 0) := by
  have e : matrix_Cauchy.at_ (k : Int) i j = ofF (toF ((k + i : Nat) : Int) + toF (j : Int)) := by
    unfold matrix_Cauchy.at_
    rw [show (k : Int) + (i : Int) = ((k + i : Nat) : Int) by omega]
    exact xor_v (by omega) (by omega)
  rw [e, inv_v (ofF_rng _), toF_ofF]
  rfl
theorem cauchy_f {k r : Nat} (h1 : 1 ≤ k) (h2 : k ≤ 12) (h3 : 1 ≤ r) (h4 : r ≤ 4) : matrix_Cauchy.f (k : Int) (r : Int) = some (mkF r k (cau k), 0) := by
  unfold matrix_Cauchy.f
  rw [if_neg (by omega), if_neg (by omega), if_neg (by omega), if_neg (by omega), Int.toNat_natCast, Int.toNat_natCast, if_pos (fun i hi j hj => by rw [cauchy_G h2 (by omega) hj]; rfl)]
  congr 2
  unfold matrix_Cauchy.M mkF
  refine List.map_congr_left fun i hi => ?_
  refine List.map_congr_left fun j hj => ?_
  unfold matrix_Cauchy.G
  rw [cauchy_G h2 (by have := List.mem_range.1 hi; omega) (List.mem_range.1 hj)]
  rfl
theorem cauchy_bad {a b : Int} (h : ¬ (1 ≤ a ∧ a ≤ 12 ∧ 1 ≤ b ∧ b ≤ 4)) : matrix_Cauchy.f a b = some ([], 2) := by
  unfold matrix_Cauchy.f
  by_cases h1 : a < 1
  · rw [if_pos h1]
  rw [if_neg h1]
  by_cases h2 : a > 12
  · rw [if_pos h2]
  rw [if_neg h2]
  by_cases h3 : b < 1
  · rw [if_pos h3]
  rw [if_neg h3, if_pos (by omega)]
theorem twin_ok {a : List (List Int)} (ga : good a) : matrix_twin.ok a := ⟨by have := ga.1; omega, by have := ga.2.1; omega, by have := ga.2.2.1; omega, by have := ga.2.2.2.1; omega, ga.2.2.2.2⟩
theorem rank_f {k : Nat} (hk : 200 ≤ k) {a : List (List Int)} (ha : isM a) (ga : good a) : ∃ r : Nat, matrix_Rank.f k a = some ((r : Int), 0) ∧ Rk a.length (rw_ a 0).length r (cell a) := by
  obtain ⟨M', B', r, piv, h1, h2, h3, h4, h5, h6, h7, h8⟩ := solve_v (k := k) (by have := ga.1; omega) (by have := ga.2.1; omega) (by have := ga.2.2.2.1; omega) (by have := ga.2.2.2.1; omega) hk (good_rect ga) (good_rect ga) ha ha
  refine ⟨r, ?_, Rk_congr (fun i j _ hj => J_left hj) (Inv_rank h6 h8)⟩
  unfold matrix_Rank.f
  rw [check_f (by omega)]
  unfold ckv
  rw [if_pos ga]
  simp only [Option.bind_some, if_true]
  rw [if_pos (twin_ok ga), h1]
  rfl
theorem rank_bad {k : Nat} (hk : 40 ≤ k) {a : List (List Int)} (ga : ¬ good a) : matrix_Rank.f k a = some (0, 30) := by
  unfold matrix_Rank.f
  rw [check_f hk]
  unfold ckv
  rw [if_neg ga]
  rfl
theorem inverse_bad {k : Nat} (hk : 40 ≤ k) {a : List (List Int)} (ga : ¬ (good a ∧ a.length = (rw_ a 0).length)) : matrix_Inverse.f k a = some ([], 30) := by
  unfold matrix_Inverse.f
  rw [check_f hk]
  unfold ckv
  by_cases g : good a
  · rw [if_pos g]
    simp only [Option.bind_some, if_true]
    rw [if_pos (twin_ok g), if_neg (fun z => ga ⟨g, z⟩)]
  · rw [if_neg g]; rfl
theorem inverse_f {k : Nat} (hk : 200 ≤ k) {a : List (List Int)} (ha : isM a) (ga : good a) (hs : a.length = (rw_ a 0).length) :
    (∃ r : Nat, r < a.length ∧ Rk a.length a.length r (cell a) ∧ matrix_Inverse.f k a = some ([], 5)) ∨
    (∃ V, matrix_Inverse.f k a = some (V, 0) ∧ rect a.length a.length V ∧ isM V ∧ Rk a.length a.length a.length (cell a) ∧ (∀ i j, i < a.length → j < a.length → mm a.length (cell V) (cell a) i j = dl i j) ∧ (∀ i j, i < a.length → j < a.length → mm a.length (cell a) (cell V) i j = dl i j)) := by
  have hr := good_rect ga
  rw [← hs] at hr
  have h32 := ga.2.1
  generalize hn : a.length = n at hr h32
  obtain ⟨M', B', r, piv, h1, h2, h3, h4, h5, h6, h7, h8⟩ := solve_v (k := k) (M := a) (B := mkF n n dl) (by have := ga.1; omega) (by omega) (by omega) (by omega) hk hr (rect_mkF n n dl) ha (isM_mkF n n dl)
  have hf : matrix_Inverse.f k a = if r < n then some ([], 5) else some (B', 0) := by
    unfold matrix_Inverse.f
    rw [check_f (by omega)]
    unfold ckv
    rw [if_pos ga]
    simp only [Option.bind_some, if_true]
    rw [if_pos (twin_ok ga), if_pos hs, hn, one_f (by have := ga.1; omega) h32]
    simp only [Option.bind_some]
    rw [if_pos ⟨trivial, (rect_mkF n n dl).1, (rect_mkF n n dl).2⟩, h1]
    rfl
  have hk2 : Rk n n r (cell a) := Rk_congr (fun i j _ hj => J_left hj) (Inv_rank h6 h8)
  by_cases hlt : r < n
  · exact .inl ⟨r, hlt, hk2, by rw [hf, if_pos hlt]⟩
  · right
    obtain rfl : r = n := Nat.le_antisymm h6.le (by omega)
    have hinv := Inv_inverse h6 h8 (fun i j hi hj => by rw [J_right, cell_mkF hi hj])
    have hp := piv_id h6.lt h6.up
    have hd : ∀ i, i < r → inv (J r M' B' i i) = 1 := fun i hi => by
      have := h7 i hi
      rw [hp i hi] at this
      rw [this]
      have e := mul_inv one_ne
      rwa [one_mul] at e
    have e1 : ∀ i j, i < r → (fun i j => inv (J r M' B' i i) * J r M' B' i (r + j)) i j = cell B' i j := fun i j hi => by
      show inv (J r M' B' i i) * J r M' B' i (r + j) = cell B' i j
      rw [hd i hi, one_mul, J_right]
    refine ⟨B', by rw [hf, if_neg hlt], h3, h5, hk2, fun i j hi hj => ?_, fun i j hi hj => ?_⟩
    · rw [← hinv.1 i j hi hj]
      exact mm_congr (fun q _ => (e1 i q hi).symm) (fun q hq => (J_left hj).symm)
    · rw [← hinv.2 i j hi hj]
      exact mm_congr (fun q hq => (J_left hq).symm) (fun q hq => (e1 q j hq).symm)
/-! Same, much, alive -/
theorem same_l0 (M : List (List Int)) (hM : M.length ≤ 50000) : ∀ (d k i : Nat), i + d = M.length → d < k → twoslotref03_Same.l0 k M M (i : Int) = some true := by
  intro d
  induction d with
  | zero =>
    intro k i hi hk
    obtain ⟨k, rfl⟩ : ∃ q, k = q + 1 := ⟨k - 1, by omega⟩
    unfold twoslotref03_Same.l0
    rw [if_neg (by omega)]
  | succ d ih =>
    intro k i hi hk
    obtain ⟨k, rfl⟩ : ∃ q, k = q + 1 := ⟨k - 1, by omega⟩
    unfold twoslotref03_Same.l0
    rw [if_pos (by omega), if_pos (by omega), if_pos (by omega), if_pos rfl, w64 (by omega)]
    exact ih k (i + 1) (by omega) (by omega)
theorem same_f {k : Nat} {M M' : List (List Int)} (hM : M.length ≤ 50000) (hk : M.length < k) (h : M = M') : twoslotref03_Same.f k M M' = some true := by
  subst h
  unfold twoslotref03_Same.f
  rw [if_pos rfl]
  exact same_l0 M hM M.length k 0 (by omega) hk
theorem much_l0 (M : List (List Int)) (hM : M.length ≤ 1000) : ∀ (d k i : Nat), i + d = M.length → d < k → ∃ b, twoslotlaw03_much.l0 k M (i : Int) = some b := by
  intro d
  induction d with
  | zero =>
    intro k i hi hk
    obtain ⟨k, rfl⟩ : ∃ q, k = q + 1 := ⟨k - 1, by omega⟩
    unfold twoslotlaw03_much.l0
    exact ⟨false, by rw [if_neg (by omega)]⟩
  | succ d ih =>
    intro k i hi hk
    obtain ⟨k, rfl⟩ : ∃ q, k = q + 1 := ⟨k - 1, by omega⟩
    unfold twoslotlaw03_much.l0
    rw [if_pos (by omega), if_pos (by omega), w64 (by omega)]
    by_cases h : ((rd_L1 M (i : Int)).length : Int) > 1000
    · exact ⟨true, by rw [if_pos h]⟩
    · rw [if_neg h]; exact ih k (i + 1) (by omega) (by omega)
theorem much_f {k : Nat} (hk : 1002 ≤ k) (M : List (List Int)) : twoslotlaw03_much.f k M = some true ∨ (twoslotlaw03_much.f k M = some false ∧ M.length ≤ 1000) := by
  unfold twoslotlaw03_much.f
  by_cases h : (M.length : Int) > 1000
  · rw [if_pos h]; exact .inl rfl
  · rw [if_neg h]
    obtain ⟨b, hb⟩ := much_l0 M (by omega) M.length k 0 (by omega) (by omega)
    rw [show (0 : Int) = ((0 : Nat) : Int) from rfl, hb]
    cases b
    · exact .inr ⟨rfl, by omega⟩
    · exact .inl rfl
theorem bM {M : List (List Int)} (h : (M.all fun r => r.all fun x => decide (0 ≤ x) && decide (x < 256)) = true) : isM M := fun r hr x hx => by
  have := List.all_eq_true.1 (List.all_eq_true.1 h r hr) x hx
  simpa using this
theorem rk_one : Rk 2 2 1 (cell [[1, 2], [2, 4]]) :=
  ⟨⟨fun i _ => if i = 0 then 1 else toF 2, fun _ j => if j = 0 then 1 else toF 2, fun i j hi hj => by
    have : i = 0 ∨ i = 1 := by omega
    have : j = 0 ∨ j = 1 := by omega
    rcases ‹i = 0 ∨ i = 1› with rfl | rfl <;> rcases ‹j = 0 ∨ j = 1› with rfl | rfl <;> decide +kernel⟩,
   ⟨dl, dl, fun i j hi hj => by
    obtain rfl : i = 0 := by omega
    obtain rfl : j = 0 := by omega
    decide +kernel⟩⟩
theorem rk_one' : Rk 2 2 1 (cell [[1, 1], [1, 1]]) :=
  ⟨⟨fun i _ => 1, fun _ j => 1, fun i j hi hj => by
    have : i = 0 ∨ i = 1 := by omega
    have : j = 0 ∨ j = 1 := by omega
    rcases ‹i = 0 ∨ i = 1› with rfl | rfl <;> rcases ‹j = 0 ∨ j = 1› with rfl | rfl <;> decide +kernel⟩,
   ⟨dl, dl, fun i j hi hj => by
    obtain rfl : i = 0 := by omega
    obtain rfl : j = 0 := by omega
    decide +kernel⟩⟩
theorem alive_f {k : Nat} (hk : 200 ≤ k) : twoslotlaw03_alive.f k = some true := by
  unfold twoslotlaw03_alive.f
  rw [if_pos]
  refine ⟨?_, ?_, ?_, ?_, ?_, ?_, ?_, ?_⟩
  · rw [mul_fn (by omega) (bM (by decide)) (bM (by decide)) (by decide) (by decide) (by decide)]
    decide +kernel
  · have := cauchy_f (k := 2) (r := 2) (by decide) (by decide) (by decide) (by decide)
    rw [show (2 : Int) = ((2 : Nat) : Int) from rfl, this]
    decide +kernel
  · obtain ⟨r, h1, h2⟩ := rank_f (k := k) hk (a := [[1, 2], [2, 4]]) (bM (by decide)) (by decide)
    rw [h1, Rk_unique h2 rk_one]
    rfl
  · rcases inverse_f (k := k) hk (a := [[2]]) (bM (by decide)) (by decide) (by decide) with ⟨r, h1, h2, h3⟩ | ⟨V, h1, h2, h3, h4, h5, h6⟩
    · have h0 : r = 0 := by simp at h1; exact h1
      subst h0
      obtain ⟨P, C, h⟩ := h2.1
      have := h 0 0 (by decide) (by decide)
      exact absurd (show cell [[2]] 0 0 = 0 from this) (by decide +kernel)
    · rw [h1]
      have e : V = mkF 1 1 (fun _ _ => inv (toF 2)) := ext_cell h2 (rect_mkF 1 1 _) h3 (isM_mkF 1 1 _) (fun i j hi hj => by
        have hi' : i < 1 := hi
        have hj' : j < 1 := hj
        obtain rfl : i = 0 := by omega
        obtain rfl : j = 0 := by omega
        rw [cell_mkF (by decide) (by decide)]
        have h7 : cell V 0 0 * toF 2 + 0 = 1 := h5 0 0 (by decide) (by decide)
        rw [add_zero] at h7
        have h8 : cell V 0 0 * toF 2 * inv (toF 2) = inv (toF 2) := by rw [h7, one_mul]
        rwa [mul_assoc, mul_inv (by decide +kernel), mul_one] at h8)
      rw [e]
      decide +kernel
  · rcases inverse_f (k := k) hk (a := [[1, 1], [1, 1]]) (bM (by decide)) (by decide) (by decide) with ⟨r, h1, h2, h3⟩ | ⟨V, h1, h2, h3, h4, h5, h6⟩
    · exact h3
    · have := Rk_unique (show Rk 2 2 2 (cell [[1, 1], [1, 1]]) from h4) rk_one'
      omega
  · exact mul_bad (by omega) (by decide)
  · rw [pick_f (by omega) (bM (by decide)) (by decide) (by decide) (by decide) (by decide)]
    decide +kernel
  · rw [check_f (by omega)]
    rfl
end Go.Proofs.Ytmeckhfoajfapaa.Pure
