/- Bytes as elements of the field, and matrices of bytes: what the printed functions of the field and Check come to. No condition. -/
import Derived.Test.YtmeckhfoajfapaaPAx2
import Derived.Test.YtmeckhfoajfapaaPAx1
import Derived.Test.YtmeckhfoajfapaaMxInv
import Derived.Test.YtmeckhfoajfapaaLin
import Derived.Test.YtmeckhfoajfapaaMxMat
namespace Go.Proofs.Ytmeckhfoajfapaa.Pure
open Go Go.RowKit Go.TwoGf Go.TwoLin Go.Proofs.Ytmeckhfoajfapaa Go.Proofs.Ytmeckhfoajfapaa.PA Go.Proofs.YtmeckhfoajfapaaW.PrintWords Go.Proofs.YtmeckhfoajfapaaW.PrintLast
set_option linter.unusedVariables false
def isB (l : List Int) : Prop := ∀ x ∈ l, 0 ≤ x ∧ x < 256
theorem isB_wf {l : List Int} (h : ∀ x ∈ l, (Lit.int .u8 x).wf = true) : isB l := fun x hx => by
  obtain ⟨n, hn, rfl⟩ := byte_of (h x hx)
  omega
def toF (x : Int) : F := F.mk (x.toNat % 256) (Nat.mod_lt _ (by decide))
def ofF (a : F) : Int := (a.v : Int)
theorem v_toF {x : Int} (h : 0 ≤ x ∧ x < 256) : (toF x).v = x.toNat := Nat.mod_eq_of_lt (by omega)
theorem ofF_toF {x : Int} (h : 0 ≤ x ∧ x < 256) : ofF (toF x) = x := by unfold ofF; rw [v_toF h]; omega
theorem ofF_rng (a : F) : 0 ≤ ofF a ∧ ofF a < 256 := ⟨by unfold ofF; omega, by have := a.lt; unfold ofF; omega⟩
theorem toF_ofF (a : F) : toF (ofF a) = a := F.ext (by rw [v_toF (ofF_rng a)]; unfold ofF; omega)
theorem toF_zero : toF 0 = 0 := rfl
theorem ofF_zero : ofF 0 = 0 := rfl
theorem ofF_one : ofF 1 = 1 := rfl
theorem ofF_inj {a b : F} (h : ofF a = ofF b) : a = b := by rw [← toF_ofF a, ← toF_ofF b, h]
theorem toF_eq_zero {x : Int} (h : 0 ≤ x ∧ x < 256) : toF x = 0 ↔ x = 0 := ⟨fun z => by rw [← ofF_toF h, z]; rfl, fun z => by rw [z]; rfl⟩
theorem nat_of {x : Int} (h : 0 ≤ x ∧ x < 256) : ∃ n : Nat, n < 256 ∧ x = n := ⟨x.toNat, by omega, by omega⟩
theorem v_nat {n : Nat} (h : n < 256) : (toF (n : Int)).v = n := Nat.mod_eq_of_lt (by omega)
theorem mul_v {k : Nat} (hk : 9 ≤ k) {x y : Int} (hx : 0 ≤ x ∧ x < 256) (hy : 0 ≤ y ∧ y < 256) : gf_Mul.f k x y = some (ofF (toF x * toF y)) := by
  obtain ⟨a, ha, rfl⟩ := nat_of hx
  obtain ⟨b, hb, rfl⟩ := nat_of hy
  rw [mul_f k a b hk ha hb]
  unfold ofF
  rw [v_mul, v_nat ha, v_nat hb]
theorem rmul_v {k : Nat} (hk : 17 ≤ k) {x y : Int} (hx : 0 ≤ x ∧ x < 256) (hy : 0 ≤ y ∧ y < 256) : twoslotref01_Mul.f k x y = some (ofF (toF x * toF y)) := by
  obtain ⟨a, ha, rfl⟩ := nat_of hx
  obtain ⟨b, hb, rfl⟩ := nat_of hy
  rw [rmul_f k a b hk ha hb]
  unfold ofF
  rw [v_mul, v_nat ha, v_nat hb]
theorem xor_v {x y : Int} (hx : 0 ≤ x ∧ x < 256) (hy : 0 ≤ y ∧ y < 256) : Go.bits .xor .u8 x y = ofF (toF x + toF y) := by
  obtain ⟨a, ha, rfl⟩ := nat_of hx
  obtain ⟨b, hb, rfl⟩ := nat_of hy
  rw [u8_xor_nat a b ha hb]
  unfold ofF
  rw [v_add, v_nat ha, v_nat hb]
theorem inv_v {x : Int} (hx : 0 ≤ x ∧ x < 256) : gf_Inv.f x = some (ofF (inv (toF x)), if x = 0 then 10 else 0) := by
  obtain ⟨a, ha, rfl⟩ := nat_of hx
  rw [inv_f a ha]
  unfold ofF
  rw [v_inv, v_nat ha]
  by_cases h : a = 0
  · rw [if_pos h, if_pos (by omega)]
  · rw [if_neg h, if_neg (by omega)]
theorem rinv_v {k : Nat} (hk : 300 ≤ k) {x : Int} (hx : 0 ≤ x ∧ x < 256) : twoslotref01_Inv.f k x = some (ofF (inv (toF x)), if x = 0 then 10 else 0) := by
  obtain ⟨a, ha, rfl⟩ := nat_of hx
  rw [rinv_f k a hk ha]
  unfold ofF
  rw [v_inv, v_nat ha]
  by_cases h : a = 0
  · rw [if_pos h, if_pos (by omega)]
  · rw [if_neg h, if_neg (by omega)]
theorem rdiv_v {k : Nat} (hk : 300 ≤ k) {x y : Int} (hx : 0 ≤ x ∧ x < 256) (hy : 0 ≤ y ∧ y < 256) (h0 : y ≠ 0) : twoslotref01_Div.f k x y = some (ofF (toF x * inv (toF y)), 0) := by
  obtain ⟨a, ha, rfl⟩ := nat_of hx
  obtain ⟨b, hb, rfl⟩ := nat_of hy
  rw [rdiv_f k a b hk ha hb, if_neg (by omega)]
  unfold ofF
  rw [v_mul, v_inv, v_nat ha, v_nat hb]
/-! matrices -/
def cell (M : List (List Int)) (i j : Nat) : F := toF (rd (rw_ M i) (j : Int))
def isM (M : List (List Int)) : Prop := ∀ r ∈ M, isB r
def mkF (n m : Nat) (A : Nat → Nat → F) : List (List Int) := (List.range n).map fun i => (List.range m).map fun j => ofF (A i j)
def rect (n m : Nat) (M : List (List Int)) : Prop := M.length = n ∧ ∀ r ∈ M, r.length = m
theorem rw_lt {M : List (List Int)} {i : Nat} (h : i < M.length) : rw_ M i = M[i] := by simp [rw_, h]
theorem rw_mem {M : List (List Int)} {i : Nat} (h : i < M.length) : rw_ M i ∈ M := by rw [rw_lt h]; exact List.getElem_mem _
theorem rw_ge {M : List (List Int)} {i : Nat} (h : M.length ≤ i) : rw_ M i = [] := by simp [rw_, h]
theorem rd_lt {l : List Int} {j : Nat} (h : j < l.length) : rd l (j : Int) = l[j] := by simp [rd, h]
theorem rd_ge {l : List Int} {j : Nat} (h : l.length ≤ j) : rd l (j : Int) = 0 := by simp [rd, h]
theorem rd_B {l : List Int} (h : isB l) (j : Nat) : 0 ≤ rd l (j : Int) ∧ rd l (j : Int) < 256 := by
  by_cases e : j < l.length
  · rw [rd_lt e]; exact h _ (List.getElem_mem _)
  · rw [rd_ge (by omega)]; decide
theorem rw_B {M : List (List Int)} (h : isM M) (i : Nat) : isB (rw_ M i) := by
  by_cases e : i < M.length
  · exact h _ (rw_mem e)
  · rw [rw_ge (by omega)]; intro x hx; cases hx
theorem cell_rd {M : List (List Int)} (h : isM M) (i j : Nat) : rd (rw_ M i) (j : Int) = ofF (cell M i j) := (ofF_toF (rd_B (rw_B h i) j)).symm
theorem cell_zero {M : List (List Int)} (h : isM M) (i j : Nat) : rd (rw_ M i) (j : Int) = 0 ↔ cell M i j = 0 := (toF_eq_zero (rd_B (rw_B h i) j)).symm
theorem rect_mkF (n m : Nat) (A : Nat → Nat → F) : rect n m (mkF n m A) := ⟨by simp [mkF], fun r hr => by
  simp only [mkF, List.mem_map] at hr
  obtain ⟨i, _, rfl⟩ := hr
  simp⟩
theorem isM_mkF (n m : Nat) (A : Nat → Nat → F) : isM (mkF n m A) := fun r hr x hx => by
  simp only [mkF, List.mem_map] at hr
  obtain ⟨i, _, rfl⟩ := hr
  simp only [List.mem_map] at hx
  obtain ⟨j, _, rfl⟩ := hx
  exact ofF_rng _
theorem rw_mkF {n m : Nat} {A : Nat → Nat → F} {i : Nat} (h : i < n) : rw_ (mkF n m A) i = (List.range m).map fun j => ofF (A i j) := by simp [rw_, mkF, h]
theorem rd_mkF {n m : Nat} {A : Nat → Nat → F} {i j : Nat} (h : i < n) (hj : j < m) : rd (rw_ (mkF n m A) i) (j : Int) = ofF (A i j) := by rw [rw_mkF h]; simp [rd, hj]
theorem cell_mkF {n m : Nat} {A : Nat → Nat → F} {i j : Nat} (h : i < n) (hj : j < m) : cell (mkF n m A) i j = A i j := by unfold cell; rw [rd_mkF h hj, toF_ofF]
theorem ext_rw {M M' : List (List Int)} (hl : M.length = M'.length) (h : ∀ i, i < M.length → rw_ M i = rw_ M' i) : M = M' := by
  apply List.ext_getElem hl
  intro i h1 h2
  have := h i h1
  rwa [rw_lt h1, rw_lt h2] at this
theorem ext_rd {l l' : List Int} (hl : l.length = l'.length) (h : ∀ j : Nat, j < l.length → rd l (j : Int) = rd l' (j : Int)) : l = l' := by
  apply List.ext_getElem hl
  intro i h1 h2
  have := h i h1
  rwa [rd_lt h1, rd_lt h2] at this
theorem rect_row {n m : Nat} {M : List (List Int)} (h : rect n m M) {i : Nat} (hi : i < n) : (rw_ M i).length = m := h.2 _ (rw_mem (by rw [h.1]; exact hi))
theorem ext_cell {n m : Nat} {M M' : List (List Int)} (h1 : rect n m M) (h2 : rect n m M') (b1 : isM M) (b2 : isM M') (h : ∀ i j, i < n → j < m → cell M i j = cell M' i j) : M = M' := by
  refine ext_rw (h1.1.trans h2.1.symm) fun i hi => ?_
  rw [h1.1] at hi
  refine ext_rd ((rect_row h1 hi).trans (rect_row h2 hi).symm) fun j hj => ?_
  rw [rect_row h1 hi] at hj
  rw [cell_rd b1, cell_rd b2, h i j hi hj]
theorem mkF_cell {n m : Nat} {M : List (List Int)} (h : rect n m M) (hb : isM M) : mkF n m (cell M) = M :=
  ext_cell (rect_mkF n m _) h (isM_mkF n m _) hb fun i j hi hj => cell_mkF hi hj
theorem mkF_congr {n m : Nat} {A B : Nat → Nat → F} (h : ∀ i j, i < n → j < m → A i j = B i j) : mkF n m A = mkF n m B :=
  ext_cell (rect_mkF n m _) (rect_mkF n m _) (isM_mkF n m _) (isM_mkF n m _) fun i j hi hj => by rw [cell_mkF hi hj, cell_mkF hi hj, h i j hi hj]
/-! Check -/
def good (M : List (List Int)) : Prop := 1 ≤ M.length ∧ M.length ≤ 32 ∧ 1 ≤ (rw_ M 0).length ∧ (rw_ M 0).length ≤ 32 ∧ ∀ r ∈ M, r.length = (rw_ M 0).length
instance (M : List (List Int)) : Decidable (good M) := by unfold good; infer_instance
def ckv (M : List (List Int)) : Int := if good M then 0 else 30
theorem good_rect {M : List (List Int)} (h : good M) : rect M.length (rw_ M 0).length M := ⟨rfl, h.2.2.2.2⟩
theorem good_of {n m : Nat} {M : List (List Int)} (h : rect n m M) (h1 : 1 ≤ n) (h2 : n ≤ 32) (h3 : 1 ≤ m) (h4 : m ≤ 32) : good M ∧ M.length = n ∧ (rw_ M 0).length = m := by
  have e : (rw_ M 0).length = m := rect_row h (by omega)
  refine ⟨⟨by rw [h.1]; exact h1, by rw [h.1]; exact h2, by rw [e]; exact h3, by rw [e]; exact h4, fun r hr => by rw [e]; exact h.2 r hr⟩, h.1, e⟩
theorem w64 {i : Nat} (h : i < 100000) : wrap64 ((i : Int) + 1) = ((i + 1 : Nat) : Int) := by unfold wrap64; omega
theorem rdL {M : List (List Int)} (i : Nat) : rd_L1 M (i : Int) = rw_ M i := rfl
theorem rdL0 {M : List (List Int)} : rd_L1 M 0 = rw_ M 0 := rfl
theorem check_l0 {M : List (List Int)} (h0 : 0 < M.length) (hM : M.length ≤ 32) : ∀ (d k i : Nat), i + d = M.length → d < k → matrix_Check.l0 k M M (M.length : Int) (i : Int) = some (if ∀ r ∈ M.drop i, 1 ≤ r.length ∧ r.length ≤ 32 ∧ r.length = (rw_ M 0).length then 0 else 30) := by
  intro d
  induction d with
  | zero =>
    intro k i hi hk
    obtain ⟨k, rfl⟩ : ∃ q, k = q + 1 := ⟨k - 1, by omega⟩
    unfold matrix_Check.l0
    rw [if_neg (by omega), List.drop_of_length_le (by omega), if_pos (fun r hr => by cases hr)]
  | succ d ih =>
    intro k i hi hk
    obtain ⟨k, rfl⟩ : ∃ q, k = q + 1 := ⟨k - 1, by omega⟩
    have hil : i < M.length := by omega
    unfold matrix_Check.l0
    rw [if_pos (by omega), if_pos (by omega), if_pos (by omega), rdL, rdL0, List.drop_eq_getElem_cons hil, ← rw_lt hil]
    by_cases h1 : (rw_ M i).length < 1
    · rw [if_pos (by omega), if_neg (fun z => by have := z (rw_ M i) (by simp); omega)]
    rw [if_neg (by omega)]
    by_cases h2 : (rw_ M i).length > 32
    · rw [if_pos (by omega), if_neg (fun z => by have := z (rw_ M i) (by simp); omega)]
    rw [if_neg (by omega), if_pos (by omega)]
    by_cases h3 : (rw_ M i).length = (rw_ M 0).length
    · rw [if_pos (by omega), w64 (by omega), ih k (i + 1) (by omega) (by omega)]
      by_cases h4 : ∀ r ∈ M.drop (i + 1), 1 ≤ r.length ∧ r.length ≤ 32 ∧ r.length = (rw_ M 0).length
      · rw [if_pos h4, if_pos (fun r hr => by
          rcases List.mem_cons.1 hr with rfl | hr
          · exact ⟨by omega, by omega, h3⟩
          · exact h4 r hr)]
      · rw [if_neg h4, if_neg (fun z => h4 fun r hr => z r (List.mem_cons_of_mem _ hr))]
    · rw [if_neg (by omega), if_neg (fun z => by have := z (rw_ M i) (by simp); omega)]
theorem check_f {k : Nat} (hk : 40 ≤ k) (M : List (List Int)) : matrix_Check.f k M = some (ckv M) := by
  obtain ⟨k, rfl⟩ : ∃ q, k = q + 1 := ⟨k - 1, by omega⟩
  unfold matrix_Check.f ckv
  by_cases h1 : M.length < 1
  · rw [if_pos (by omega), if_neg (fun z => by have := z.1; omega)]
    unfold matrix_Check.j0
    rfl
  rw [if_neg (by omega)]
  simp only [matrix_Check.j0]
  by_cases h2 : M.length > 32
  · rw [if_pos (by simp; omega), if_neg (fun z => by have := z.2.1; omega)]
  rw [if_neg (by simp; omega), show (0 : Int) = ((0 : Nat) : Int) from rfl, check_l0 (by omega) (by omega) M.length k 0 (by omega) (by omega), List.drop_zero]
  have h0 := rw_mem (M := M) (i := 0) (by omega)
  by_cases h3 : ∀ r ∈ M, 1 ≤ r.length ∧ r.length ≤ 32 ∧ r.length = (rw_ M 0).length
  · rw [if_pos h3, if_pos ⟨by omega, by omega, (h3 _ h0).1, (h3 _ h0).2.1, fun r hr => (h3 r hr).2.2⟩]; rfl
  · rw [if_neg h3, if_neg (fun z => h3 fun r hr => by have := z.2.2.2.2 r hr; have := z.2.2.1; have := z.2.2.2.1; omega)]
end Go.Proofs.Ytmeckhfoajfapaa.Pure
