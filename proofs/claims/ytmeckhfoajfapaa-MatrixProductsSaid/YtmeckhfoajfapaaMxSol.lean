/- What solve comes to: an elimination. No condition. -/
import Derived.Test.YtmeckhfoajfapaaPAx5
import Derived.Test.YtmeckhfoajfapaaPAx2
import Derived.Test.YtmeckhfoajfapaaPAx3
import Derived.Test.YtmeckhfoajfapaaMxVal
namespace Go.Proofs.Ytmeckhfoajfapaa.Pure
open Go Go.RowKit Go.TwoGf Go.TwoLin Go.Proofs.Ytmeckhfoajfapaa Go.Proofs.Ytmeckhfoajfapaa.PA Go.Proofs.YtmeckhfoajfapaaW.PrintWords Go.Proofs.YtmeckhfoajfapaaW.PrintLast
set_option linter.unusedVariables false
theorem rd_set {x : List Int} {i : Nat} (hi : i < x.length) (v : Int) (j : Nat) : rd (x.set i v) (j : Int) = if j = i then v else rd x (j : Int) := by
  unfold rd
  rw [Int.toNat_natCast, List.getD_eq_getElem?_getD, List.getD_eq_getElem?_getD, List.getElem?_set]
  by_cases h : i = j
  · subst h; simp [hi]
  · rw [if_neg h, if_neg (fun z => h z.symm)]
theorem isB_set {x : List Int} (h : isB x) {i : Nat} {v : Int} (hv : 0 ≤ v ∧ v < 256) : isB (x.set i v) := fun y hy => by
  rcases List.mem_or_eq_of_mem_set hy with h1 | h1
  · exact h y h1
  · rw [h1]; exact hv
theorem times_l0 {c : Int} (hc : 0 ≤ c ∧ c < 256) {n : Nat} (hn : n ≤ 1000) : ∀ (d k i : Nat) (x : List Int), x.length = n → i + d = n → d + 10 < k → isB x →
    ∃ r, matrix_times.l0 k x c (n : Int) (i : Int) = some r ∧ r.length = n ∧ isB r ∧ (∀ j, j < i → rd r (j : Int) = rd x (j : Int)) ∧ (∀ j, i ≤ j → toF (rd r (j : Int)) = toF (rd x (j : Int)) * toF c) := by
  intro d
  induction d with
  | zero =>
    intro k i x hx hi hk hb
    obtain ⟨k, rfl⟩ : ∃ q, k = q + 1 := ⟨k - 1, by omega⟩
    unfold matrix_times.l0
    rw [if_neg (by omega)]
    refine ⟨x, rfl, hx, hb, fun _ _ => rfl, fun j hj => ?_⟩
    rw [rd_ge (by omega), toF_zero, zero_mul]
  | succ d ih =>
    intro k i x hx hi hk hb
    obtain ⟨k, rfl⟩ : ∃ q, k = q + 1 := ⟨k - 1, by omega⟩
    unfold matrix_times.l0
    rw [if_pos (by omega), if_pos (by omega), if_pos (by omega), mul_v (by omega) (rd_B hb i) hc, Option.bind_some, Int.toNat_natCast, w64 (by omega)]
    obtain ⟨r, h1, h2, h3, h4, h5⟩ := ih k (i + 1) (x.set i (ofF (toF (rd x (i : Int)) * toF c))) (by simpa using hx) (by omega) (by omega) (isB_set hb (ofF_rng _))
    refine ⟨r, h1, h2, h3, fun j hj => ?_, fun j hj => ?_⟩
    · rw [h4 j (by omega), rd_set (by omega), if_neg (by omega)]
    · by_cases e : j = i
      · subst e
        rw [h4 j (by omega), rd_set (by omega), if_pos rfl, toF_ofF]
      · rw [h5 j (by omega), rd_set (by omega), if_neg e]
theorem times_v {k : Nat} {l : List Int} {c : Int} (hk : l.length + 10 < k) (hl : l.length ≤ 1000) (hb : isB l) (hc : 0 ≤ c ∧ c < 256) : ∃ r, matrix_times.f k l c = some r ∧ r.length = l.length ∧ isB r ∧ ∀ j : Nat, toF (rd r (j : Int)) = toF (rd l (j : Int)) * toF c := by
  obtain ⟨r, h1, h2, h3, _, h5⟩ := times_l0 hc hl l.length k 0 l rfl (by omega) (by omega) hb
  exact ⟨r, h1, h2, h3, fun j => h5 j (by omega)⟩
theorem plus_l0 {c : Int} (hc : 0 ≤ c ∧ c < 256) {n : Nat} (hn : n ≤ 1000) {b : List Int} (hbl : b.length = n) (hbb : isB b) : ∀ (d k i : Nat) (x : List Int), x.length = n → i + d = n → d + 10 < k → isB x →
    ∃ r, matrix_plus.l0 k x c b (n : Int) (i : Int) = some r ∧ r.length = n ∧ isB r ∧ (∀ j, j < i → rd r (j : Int) = rd x (j : Int)) ∧ (∀ j, i ≤ j → toF (rd r (j : Int)) = toF (rd x (j : Int)) + toF c * toF (rd b (j : Int))) := by
  intro d
  induction d with
  | zero =>
    intro k i x hx hi hk hb
    obtain ⟨k, rfl⟩ : ∃ q, k = q + 1 := ⟨k - 1, by omega⟩
    unfold matrix_plus.l0
    rw [if_neg (by omega)]
    refine ⟨x, rfl, hx, hb, fun _ _ => rfl, fun j hj => ?_⟩
    rw [rd_ge (by omega), rd_ge (by omega), toF_zero, mul_zero, add_zero]
  | succ d ih =>
    intro k i x hx hi hk hb
    obtain ⟨k, rfl⟩ : ∃ q, k = q + 1 := ⟨k - 1, by omega⟩
    unfold matrix_plus.l0
    rw [if_pos (by omega), if_pos (by omega), if_pos (by omega), if_pos (by omega), mul_v (by omega) hc (rd_B hbb i), Option.bind_some]
    unfold gf_Add.f
    rw [Option.bind_some, Int.toNat_natCast, w64 (by omega), xor_v (rd_B hb i) (ofF_rng _), toF_ofF]
    obtain ⟨r, h1, h2, h3, h4, h5⟩ := ih k (i + 1) (x.set i (ofF (toF (rd x (i : Int)) + toF c * toF (rd b (i : Int))))) (by simpa using hx) (by omega) (by omega) (isB_set hb (ofF_rng _))
    refine ⟨r, h1, h2, h3, fun j hj => ?_, fun j hj => ?_⟩
    · rw [h4 j (by omega), rd_set (by omega), if_neg (by omega)]
    · by_cases e : j = i
      · subst e
        rw [h4 j (by omega), rd_set (by omega), if_pos rfl, toF_ofF]
      · rw [h5 j (by omega), rd_set (by omega), if_neg e]
theorem plus_v {k : Nat} {a b : List Int} {c : Int} (hk : a.length + 10 < k) (hl : a.length ≤ 1000) (hab : b.length = a.length) (ha : isB a) (hb : isB b) (hc : 0 ≤ c ∧ c < 256) : ∃ r, matrix_plus.f k a c b = some r ∧ r.length = a.length ∧ isB r ∧ ∀ j : Nat, toF (rd r (j : Int)) = toF (rd a (j : Int)) + toF c * toF (rd b (j : Int)) := by
  obtain ⟨r, h1, h2, h3, _, h5⟩ := plus_l0 hc hl hab hb a.length k 0 a rfl (by omega) (by omega) ha
  exact ⟨r, h1, h2, h3, fun j => h5 j (by omega)⟩
/-! rows that are put back -/
theorem isM_set {M : List (List Int)} (h : isM M) {i : Nat} {r : List Int} (hr : isB r) : isM (M.set i r) := fun y hy => by
  rcases List.mem_or_eq_of_mem_set hy with h1 | h1
  · exact h y h1
  · rw [h1]; exact hr
theorem rect_set {n m : Nat} {M : List (List Int)} (h : rect n m M) {i : Nat} {r : List Int} (hr : r.length = m) : rect n m (M.set i r) := ⟨by simpa using h.1, fun y hy => by
  rcases List.mem_or_eq_of_mem_set hy with h1 | h1
  · exact h.2 y h1
  · rw [h1]; exact hr⟩
theorem isM_sw {M : List (List Int)} (h : isM M) (i j : Nat) : isM (swL M i j) := isM_set (isM_set h (rw_B h j)) (rw_B h i)
theorem rect_sw {n m : Nat} {M : List (List Int)} (h : rect n m M) {i j : Nat} (hi : i < n) (hj : j < n) : rect n m (swL M i j) := rect_set (rect_set h (rect_row h hj)) (rect_row h hi)
/-- a matrix, and another one beside -/
def J (m : Nat) (M B : List (List Int)) (i j : Nat) : F := if j < m then cell M i j else cell B i (j - m)
theorem Inv_congr {n j r : Nat} {piv : Nat → Nat} {X Y : Nat → Nat → F} (h : ∀ i j, i < n → X i j = Y i j) (hI : Inv n j r piv X) : Inv n j r piv Y :=
  ⟨hI.le, hI.lt, hI.up, fun a ha => by rw [← h _ _ (Nat.lt_of_lt_of_le ha hI.le)]; exact hI.nz a ha, fun a ha i hi hne => by rw [← h _ _ hi]; exact hI.off a ha i hi hne, fun i h1 h2 k hk => by rw [← h _ _ h2]; exact hI.low i h1 h2 k hk⟩
theorem Eqv_congr {n : Nat} {X Y Z : Nat → Nat → F} (h : ∀ i j, i < n → Y i j = Z i j) (hE : Eqv n X Y) : Eqv n X Z := by
  obtain ⟨⟨Q, hQ⟩, P, hP⟩ := hE
  exact ⟨⟨Q, fun i j hi => (h i j hi).symm.trans (hQ i j hi)⟩, P, fun i j hi => (hP i j hi).trans (mm_congr (fun _ _ => rfl) fun k hk => h k j hk)⟩
theorem find_spec (M : List (List Int)) (j : Nat) : ∀ d i, (matrix_solve.find M j d i = i + d ∧ ∀ q, i ≤ q → q < i + d → rd (rw_ M q) (j : Int) = 0) ∨ (i ≤ matrix_solve.find M j d i ∧ matrix_solve.find M j d i < i + d ∧ rd (rw_ M (matrix_solve.find M j d i)) (j : Int) ≠ 0)
  | 0, i => .inl ⟨rfl, fun q h1 h2 => by omega⟩
  | d + 1, i => by
    unfold matrix_solve.find
    by_cases h : rd (rw_ M i) (j : Int) ≠ 0
    · rw [if_pos h]; exact .inr ⟨Nat.le_refl _, by omega, h⟩
    · rw [if_neg h]
      rcases find_spec M j d (i + 1) with ⟨h1, h2⟩ | ⟨h1, h2, h3⟩
      · refine .inl ⟨by omega, fun q hq1 hq2 => ?_⟩
        by_cases e : q = i
        · rw [e]; exact Classical.byContradiction h
        · exact h2 q (by omega) (by omega)
      · exact .inr ⟨by omega, by omega, h3⟩
theorem clear_v {k j n n0 m m2 : Nat} (hm : m ≤ 100) (hm2 : m2 ≤ 100) (hk : 200 ≤ k) (hn : n < n0) : ∀ (d i : Nat) (M B : List (List Int)), rect n0 m M → rect n0 m2 B → isM M → isM B → i + d = n0 →
    ∃ M' B', matrix_solve.clear k j n d i M B = some (M', B') ∧ rect n0 m M' ∧ rect n0 m2 B' ∧ isM M' ∧ isM B' ∧ (∀ q, q < n0 → q < i ∨ q = n → rw_ M' q = rw_ M q ∧ rw_ B' q = rw_ B q) ∧
      (∀ q, i ≤ q → q < n0 → q ≠ n → ∀ l, cell M' q l = cell M q l + cell M q j * cell M n l ∧ cell B' q l = cell B q l + cell M q j * cell B n l) := by
  intro d
  induction d with
  | zero =>
    intro i M B hM hB bM bB hi
    unfold matrix_solve.clear
    exact ⟨M, B, rfl, hM, hB, bM, bB, fun _ _ _ => ⟨rfl, rfl⟩, fun q h1 h2 => by omega⟩
  | succ d ih =>
    intro i M B hM hB bM bB hi
    unfold matrix_solve.clear
    have hil : i < M.length := by rw [hM.1]; omega
    have hil2 : i < B.length := by rw [hB.1]; omega
    by_cases h : i ≠ n ∧ rd (rw_ M i) (j : Int) ≠ 0
    · rw [if_pos h]
      obtain ⟨r, r1, r2, r3, r4⟩ := plus_v (k := k) (a := rw_ M i) (b := rw_ M n) (c := rd (rw_ M i) (j : Int)) (by rw [rect_row hM (by omega)]; omega) (by rw [rect_row hM (by omega)]; omega) (by rw [rect_row hM (by omega), rect_row hM (by omega)]) (rw_B bM i) (rw_B bM n) (rd_B (rw_B bM i) j)
      obtain ⟨s, s1, s2, s3, s4⟩ := plus_v (k := k) (a := rw_ B i) (b := rw_ B n) (c := rd (rw_ M i) (j : Int)) (by rw [rect_row hB (by omega)]; omega) (by rw [rect_row hB (by omega)]; omega) (by rw [rect_row hB (by omega), rect_row hB (by omega)]) (rw_B bB i) (rw_B bB n) (rd_B (rw_B bM i) j)
      rw [r1, Option.bind_some, s1, Option.bind_some]
      obtain ⟨M', B', h1, h2, h3, h4, h5, h6, h7⟩ := ih (i + 1) (M.set i r) (B.set i s) (rect_set hM (by rw [r2, rect_row hM (by omega)])) (rect_set hB (by rw [s2, rect_row hB (by omega)])) (isM_set bM r3) (isM_set bB s3) (by omega)
      refine ⟨M', B', h1, h2, h3, h4, h5, fun q hq hqi => ?_, fun q h8 h9 h10 l => ?_⟩
      · have := h6 q hq (by omega)
        rw [rw_set hil, rw_set hil2, if_neg (by omega), if_neg (by omega)] at this
        exact this
      · by_cases e : q = i
        · subst e
          have := h6 q h9 (by omega)
          rw [rw_set hil, rw_set hil2, if_pos rfl, if_pos rfl] at this
          unfold cell
          rw [this.1, this.2, r4, s4]
          exact ⟨rfl, rfl⟩
        · have := h7 q (by omega) h9 h10 l
          have c1 : ∀ l, cell (M.set i r) q l = cell M q l := fun l => by unfold cell; rw [rw_set hil, if_neg e]
          have c2 : ∀ l, cell (M.set i r) n l = cell M n l := fun l => by unfold cell; rw [rw_set hil, if_neg (by omega)]
          have c3 : ∀ l, cell (B.set i s) q l = cell B q l := fun l => by unfold cell; rw [rw_set hil2, if_neg e]
          have c4 : ∀ l, cell (B.set i s) n l = cell B n l := fun l => by unfold cell; rw [rw_set hil2, if_neg (by omega)]
          rw [c1, c1, c2, c3, c4] at this
          exact this
    · rw [if_neg h]
      obtain ⟨M', B', h1, h2, h3, h4, h5, h6, h7⟩ := ih (i + 1) M B hM hB bM bB (by omega)
      refine ⟨M', B', h1, h2, h3, h4, h5, fun q hq hqi => h6 q hq (by omega), fun q h8 h9 h10 l => ?_⟩
      by_cases e : q = i
      · subst e
        have := h6 q h9 (by omega)
        have hz : cell M q j = 0 := (cell_zero bM q j).1 (Classical.byContradiction fun z => h ⟨h10, z⟩)
        have e1 : cell M' q l = cell M q l := by unfold cell; rw [this.1]
        have e2 : cell B' q l = cell B q l := by unfold cell; rw [this.2]
        rw [e1, e2, hz, zero_mul, zero_mul, add_zero, add_zero]
        exact ⟨rfl, rfl⟩
      · exact h7 q (by omega) h9 h10 l
theorem cell_swL {n m : Nat} {M : List (List Int)} (h : rect n m M) {a r : Nat} (ha : a < n) (hr : r < n) (q l : Nat) : cell (swL M a r) q l = if q = r then cell M a l else cell M (sw r a q) l := by
  unfold cell
  rw [rw_swL (by rw [h.1]; exact ha) (by rw [h.1]; exact hr)]
  unfold swp sw
  by_cases e1 : q = a
  · by_cases e2 : q = r
    · rw [if_pos e1, if_pos e2, ← e1, e2]
    · rw [if_pos e1, if_neg e2, if_neg e2, if_pos e1]
  · by_cases e2 : q = r
    · rw [if_neg e1, if_pos e2, if_pos e2]
    · rw [if_neg e1, if_neg e2, if_neg e2, if_neg e2, if_neg e1]
theorem cols_v {k n0 m m2 : Nat} (hn0 : n0 ≤ 100) (hm : m ≤ 100) (hm2 : m2 ≤ 100) (hk : 200 ≤ k) : ∀ (d j n : Nat) (M B : List (List Int)) (piv : Nat → Nat), rect n0 m M → rect n0 m2 B → isM M → isM B → j + d = m → Inv n0 j n piv (J m M B) → (∀ a, a < n → J m M B a (piv a) = 1) →
    ∃ (M' B' : List (List Int)) (r : Nat) (piv' : Nat → Nat), matrix_solve.cols k d j n M B = some (M', B', r) ∧ rect n0 m M' ∧ rect n0 m2 B' ∧ isM M' ∧ isM B' ∧ Inv n0 m r piv' (J m M' B') ∧ (∀ a, a < r → J m M' B' a (piv' a) = 1) ∧ Eqv n0 (J m M B) (J m M' B') := by
  intro d
  induction d with
  | zero =>
    intro j n M B piv hM hB bM bB hj hI h1
    obtain rfl : j = m := by omega
    exact ⟨M, B, n, piv, rfl, hM, hB, bM, bB, hI, h1, Eqv_refl _ _⟩
  | succ d ih =>
    intro j n M B piv hM hB bM bB hj hI h1
    have hjm : j < m := by omega
    have hJ : ∀ q, J m M B q j = cell M q j := fun q => by unfold J; rw [if_pos hjm]
    unfold matrix_solve.cols
    have hnl := hI.le
    rcases find_spec M j (M.length - n) n with ⟨f1, f2⟩ | ⟨f1, f2, f3⟩
    · rw [if_pos (by rw [f1, hM.1]; omega)]
      exact ih (j + 1) n M B piv hM hB bM bB (by omega) (Inv_skip hI fun i h2 h3 => by rw [hJ]; exact (cell_zero bM i j).1 (f2 i h2 (by rw [hM.1]; omega))) h1
    · rw [if_neg (by omega)]
      rw [hM.1] at f1 f2 f3 ⊢
      generalize matrix_solve.find M j (n0 - n) n = a at f1 f2 f3
      have ha : a < n0 := by omega
      have hn : n < n0 := by omega
      have hx : cell M a j ≠ 0 := fun z => f3 ((cell_zero bM a j).2 z)
      have hs1 := rect_sw hM ha hn
      have hs2 := rect_sw hB ha hn
      have bs1 := isM_sw bM a n
      have bs2 := isM_sw bB a n
      have hp : rd (rw_ (swL M a n) n) (j : Int) = rd (rw_ M a) (j : Int) := by
        rw [cell_rd bs1, cell_rd bM, cell_swL hM ha hn, if_pos rfl]
      rw [hp, inv_v (rd_B (rw_B bM a) j), Option.bind_some]
      simp only
      obtain ⟨r, r1, r2, r3, r4⟩ := times_v (k := k) (l := rw_ (swL M a n) n) (c := ofF (inv (toF (rd (rw_ M a) (j : Int))))) (by rw [rect_row hs1 hn]; omega) (by rw [rect_row hs1 hn]; omega) (rw_B bs1 n) (ofF_rng _)
      obtain ⟨s, s1, s2, s3, s4⟩ := times_v (k := k) (l := rw_ (swL B a n) n) (c := ofF (inv (toF (rd (rw_ M a) (j : Int))))) (by rw [rect_row hs2 hn]; omega) (by rw [rect_row hs2 hn]; omega) (rw_B bs2 n) (ofF_rng _)
      rw [r1, Option.bind_some, s1, Option.bind_some]
      have hl1 : n < (swL M a n).length := by rw [hs1.1]; exact hn
      have hl2 : n < (swL B a n).length := by rw [hs2.1]; exact hn
      obtain ⟨M', B', q1, q2, q3, q4, q5, q6, q7⟩ := clear_v (k := k) (j := j) hm hm2 hk hn n0 0 ((swL M a n).set n r) ((swL B a n).set n s) (rect_set hs1 (by rw [r2, rect_row hs1 hn])) (rect_set hs2 (by rw [s2, rect_row hs2 hn])) (isM_set bs1 r3) (isM_set bs2 s3) (by omega)
      rw [q1, Option.bind_some]
      simp only
      have cn1 : ∀ l, cell ((swL M a n).set n r) n l = inv (cell M a j) * cell M a l := fun l => by
        have : cell ((swL M a n).set n r) n l = toF (rd r (l : Int)) := by unfold cell; rw [rw_set hl1, if_pos rfl]
        rw [this, r4, toF_ofF, mul_comm]
        have e : toF (rd (rw_ (swL M a n) n) (l : Int)) = cell (swL M a n) n l := rfl
        rw [e, cell_swL hM ha hn, if_pos rfl]
        rfl
      have cn2 : ∀ l, cell ((swL B a n).set n s) n l = inv (cell M a j) * cell B a l := fun l => by
        have : cell ((swL B a n).set n s) n l = toF (rd s (l : Int)) := by unfold cell; rw [rw_set hl2, if_pos rfl]
        rw [this, s4, toF_ofF, mul_comm]
        have e : toF (rd (rw_ (swL B a n) n) (l : Int)) = cell (swL B a n) n l := rfl
        rw [e, cell_swL hB ha hn, if_pos rfl]
        rfl
      have co1 : ∀ q l, q ≠ n → cell ((swL M a n).set n r) q l = cell M (sw n a q) l := fun q l hq => by
        have : cell ((swL M a n).set n r) q l = cell (swL M a n) q l := by unfold cell; rw [rw_set hl1, if_neg hq]
        rw [this, cell_swL hM ha hn, if_neg hq]
      have co2 : ∀ q l, q ≠ n → cell ((swL B a n).set n s) q l = cell B (sw n a q) l := fun q l hq => by
        have : cell ((swL B a n).set n s) q l = cell (swL B a n) q l := by unfold cell; rw [rw_set hl2, if_neg hq]
        rw [this, cell_swL hB ha hn, if_neg hq]
      have hst : ∀ i l, i < n0 → stp (J m M B) n a (inv (cell M a j)) (fun q => cell M (sw n a q) j) i l = J m M' B' i l := fun i l hi => by
        unfold stp J
        by_cases e : i = n
        · subst e
          have := q6 i hi (.inr rfl)
          have e1 : cell M' i l = cell ((swL M a i).set i r) i l := by unfold cell; rw [this.1]
          have e2 : cell B' i (l - m) = cell ((swL B a i).set i s) i (l - m) := by unfold cell; rw [this.2]
          rw [if_pos rfl, e1, e2, cn1, cn2]
          split <;> rfl
        · have h8 := q7 i (Nat.zero_le _) hi e
          rw [if_neg e, (h8 l).1, (h8 (l - m)).2, co1 _ _ e, co1 _ _ e, co2 _ _ e, cn1, cn2]
          split <;> rfl
      have hd : ∀ i, i < n0 → i ≠ n → stp (J m M B) n a (inv (cell M a j)) (fun q => cell M (sw n a q) j) i j = 0 := fun i hi hne => by
        unfold stp
        rw [if_neg hne, hJ, hJ, inv_mul hx, mul_one, add_self]
      have hstep := Inv_step (c := inv (cell M a j)) (d := fun q => cell M (sw n a q) j) hI f1 ha (by rw [hJ]; exact hx) (inv_ne hx) hd
      have hone : ∀ b, b < n + 1 → J m M' B' b (if b = n then j else piv b) = 1 := fun b hb => by
        rw [← hst b _ (by omega)]
        unfold stp
        by_cases e : b = n
        · rw [if_pos e, if_pos e, hJ, inv_mul hx]
        · rw [if_neg e, if_neg e]
          have e3 : sw n a b = b := by unfold sw; rw [if_neg e, if_neg (by omega)]
          rw [e3, hI.off b (by omega) a ha (by omega), mul_zero, mul_zero, add_zero, h1 b (by omega)]
      obtain ⟨M2, B2, r', piv', t1, t2, t3, t4, t5, t6, t7, t8⟩ := ih (j + 1) (n + 1) M' B' (fun b => if b = n then j else piv b) q2 q3 q4 q5 (by omega) (Inv_congr hst hstep) hone
      exact ⟨M2, B2, r', piv', t1, t2, t3, t4, t5, t6, t7, Eqv_trans (Eqv_congr hst (Eqv_stp (inv_ne hx) hn ha _ _)) t8⟩
theorem solve_v {k n0 m m2 : Nat} {M B : List (List Int)} (h0 : 0 < n0) (hn0 : n0 ≤ 100) (hm : m ≤ 100) (hm2 : m2 ≤ 100) (hk : 200 ≤ k) (hM : rect n0 m M) (hB : rect n0 m2 B) (bM : isM M) (bB : isM B) :
    ∃ (M' B' : List (List Int)) (r : Nat) (piv : Nat → Nat), matrix_solve.f k M B = some (M', B', r) ∧ rect n0 m M' ∧ rect n0 m2 B' ∧ isM M' ∧ isM B' ∧ Inv n0 m r piv (J m M' B') ∧ (∀ a, a < r → J m M' B' a (piv a) = 1) ∧ Eqv n0 (J m M B) (J m M' B') := by
  unfold matrix_solve.f
  rw [rect_row hM h0]
  exact cols_v hn0 hm hm2 hk m 0 0 M B (fun a => a) hM hB bM bB (by omega) (Inv_start _ _ _) (fun a ha => by omega)
theorem J_left {m : Nat} {M B : List (List Int)} {i j : Nat} (h : j < m) : J m M B i j = cell M i j := if_pos h
theorem J_right (m : Nat) (M B : List (List Int)) (i j : Nat) : J m M B i (m + j) = cell B i j := by unfold J; rw [if_neg (by omega), Nat.add_sub_cancel_left]
end Go.Proofs.Ytmeckhfoajfapaa.Pure
