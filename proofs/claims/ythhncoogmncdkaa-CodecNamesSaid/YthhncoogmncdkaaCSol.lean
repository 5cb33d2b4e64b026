/- What solve comes to: an elimination. No condition. -/
import Derived.Test.YthhncoogmncdkaaLin
import Derived.Test.YthhncoogmncdkaaPAx5
import Derived.Test.YthhncoogmncdkaaPAx3
import Derived.Test.YthhncoogmncdkaaMxMat
import Derived.Test.YthhncoogmncdkaaPAx20
namespace Go.Proofs.Ythhncoogmncdkaa.Pure
open Go Go.RowKit Go.TwoGf Go.Proofs.Ythhncoogmncdkaa Go.Proofs.Ythhncoogmncdkaa.PA Go.Proofs.YthhncoogmncdkaaW.PrintWords Go.Proofs.YthhncoogmncdkaaW.PrintLast Go.Proofs.YthhncoogmncdkaaW.PrintMore
set_option linter.unusedVariables false
def by8 (x : Int) : Prop := 0 ≤ x ∧ x < 256
theorem aI_right {x : Int} (hx : by8 x) : aI x 0 = x := by rw [aI_comm hx (by decide), aI_zero hx]
theorem aI_turn {x y z : Int} (hx : by8 x) (hy : by8 y) (hz : by8 z) : aI (aI x y) z = aI (aI x z) y := by
  rw [aI_assoc hx hy hz, aI_comm hy hz, ← aI_assoc hx hz hy]
theorem aI_back {x y : Int} (hx : by8 x) (hy : by8 y) : aI (aI x y) y = x := by
  rw [aI_assoc hx hy hy, aI_self hy, aI_right hx]
theorem addv_comm {c d : Int} : ∀ {a b e : List Int}, isB a → addv (addv a c b) d e = addv (addv a d e) c b
  | [], _, _, _ => by simp [addv]
  | _ :: _, [], [], _ => by simp [addv]
  | _ :: _, [], _ :: _, _ => by simp [addv]
  | _ :: _, _ :: _, [], _ => by simp [addv]
  | x :: a, y :: b, z :: e, ha => by
    have := addv_comm (c := c) (d := d) (b := b) (e := e) (isB_cons ha).2
    simp only [addv, List.zipWith_cons_cons] at this ⊢
    rw [this, aI_turn (isB_cons ha).1 (mI_rng _ _) (mI_rng _ _)]
theorem addv_twice {c : Int} : ∀ {a b : List Int}, isB a → a.length ≤ b.length → addv (addv a c b) c b = a
  | [], _, _, _ => by simp [addv]
  | _ :: _, [], _, h => by simp at h
  | x :: a, y :: b, ha, h => by
    have := addv_twice (c := c) (b := b) (isB_cons ha).2 (by simpa using h)
    simp only [addv, List.zipWith_cons_cons] at this ⊢
    rw [this, aI_back (isB_cons ha).1 (mI_rng _ _)]
theorem dacc_addv {c : Int} {b : List Int} : ∀ {cs : List Int} {bs : List (List Int)} {acc : List Int}, isB acc → dacc (addv acc c b) cs bs = addv (dacc acc cs bs) c b
  | [], _, _, _ => rfl
  | _ :: _, [], _, _ => rfl
  | d :: cs, e :: bs, acc, h => by
    rw [dacc, dacc, addv_comm h, dacc_addv (addv_B _ h)]
theorem dacc_twice : ∀ {cs : List Int} {bs : List (List Int)} {acc : List Int}, isB acc → (∀ b ∈ bs, acc.length ≤ b.length) → dacc (dacc acc cs bs) cs bs = acc
  | [], _, _, _, _ => rfl
  | _ :: _, [], _, _, _ => rfl
  | d :: cs, e :: bs, acc, h, hl => by
    have h0 := hl e (by simp)
    rw [dacc, dacc, dacc_addv h, dacc_addv (addv_B _ (dacc_B h))]
    rw [dacc_addv (dacc_B h), dacc_twice h (fun b hb => hl b (by simp [hb])), addv_twice h h0]
theorem addv_addv {c : Int} : ∀ {p z b : List Int}, isB p → isB z → addv p 1 (addv z c b) = addv (addv p 1 z) c b
  | [], _, _, _, _ => by simp [addv]
  | _ :: _, [], _, _, _ => by simp [addv]
  | _ :: _, _ :: _, [], _, _ => by simp [addv]
  | x :: p, y :: z, w :: b, hp, hz => by
    have := addv_addv (c := c) (b := b) (isB_cons hp).2 (isB_cons hz).2
    simp only [addv, List.zipWith_cons_cons] at this ⊢
    rw [this, mI_one (aI_rng (isB_cons hz).1 (mI_rng _ _)), mI_one (isB_cons hz).1, aI_assoc (isB_cons hp).1 (isB_cons hz).1 (mI_rng _ _)]
theorem addv_dacc {p : List Int} (hp : isB p) : ∀ {cs : List Int} {bs : List (List Int)} {z : List Int}, isB z → addv p 1 (dacc z cs bs) = dacc (addv p 1 z) cs bs
  | [], _, _, _ => rfl
  | _ :: _, [], _, _ => rfl
  | d :: cs, e :: bs, z, hz => by
    rw [dacc, dacc, addv_dacc hp (addv_B _ hz), addv_addv hp hz]
theorem addv_zero : ∀ {p : List Int}, isB p → addv p 1 (List.replicate p.length 0) = p
  | [], _ => rfl
  | x :: p, hp => by
    have := addv_zero (isB_cons hp).2
    simp only [addv, List.length_cons, List.replicate_succ, List.zipWith_cons_cons] at this ⊢
    rw [this, mI_one (by decide), aI_right (isB_cons hp).1]
theorem add_sum {p : List Int} (hp : isB p) {n : Nat} (hn : p.length = n) (cs : List Int) (bs : List (List Int)) : addv p 1 (dacc (List.replicate n 0) cs bs) = dacc p cs bs := by
  subst hn
  rw [addv_dacc hp (isB_rep _), addv_zero hp]
/-! rows, each by its own function -/
def upd (f : Nat → List Int → List Int) : List (List Int) → Nat → List (List Int)
  | [], _ => []
  | p :: ps, i => f i p :: upd f ps (i + 1)
theorem upd_len (f : Nat → List Int → List Int) : ∀ ps i, (upd f ps i).length = ps.length
  | [], _ => rfl
  | p :: ps, i => by simp [upd, upd_len f ps (i + 1)]
theorem upd_upd (f g : Nat → List Int → List Int) : ∀ ps i, upd f (upd g ps i) i = upd (fun i p => f i (g i p)) ps i
  | [], _ => rfl
  | p :: ps, i => by simp [upd, upd_upd f g ps (i + 1)]
theorem upd_congr {f g : Nat → List Int → List Int} : ∀ ps i, (∀ j, ∀ p ∈ ps, f j p = g j p) → upd f ps i = upd g ps i
  | [], _, _ => rfl
  | p :: ps, i, h => by
    rw [upd, upd, h i p (by simp), upd_congr ps (i + 1) (fun j q hq => h j q (by simp [hq]))]
theorem upd_id {f : Nat → List Int → List Int} : ∀ ps i, (∀ j, ∀ p ∈ ps, f j p = p) → upd f ps i = ps
  | [], _, _ => rfl
  | p :: ps, i, h => by
    rw [upd, h i p (by simp), upd_id ps (i + 1) (fun j q hq => h j q (by simp [hq]))]
theorem upd_all {f : Nat → List Int → List Int} {Q : List Int → Prop} : ∀ ps i, (∀ j, ∀ p ∈ ps, Q (f j p)) → ∀ q ∈ upd f ps i, Q q
  | [], _, _, q, hq => by cases hq
  | p :: ps, i, h, q, hq => by
    rw [upd, List.mem_cons] at hq
    rcases hq with rfl | hq
    · exact h i p (by simp)
    · exact upd_all ps (i + 1) (fun j r hr => h j r (by simp [hr])) q hq
end Go.Proofs.Ythhncoogmncdkaa.Pure
namespace Go.Proofs.Ythhncoogmncdkaa.Pure
open Go Go.RowKit Go.TwoGf Go.Proofs.Ythhncoogmncdkaa Go.Proofs.Ythhncoogmncdkaa.PA Go.Proofs.YthhncoogmncdkaaW.PrintWords Go.Proofs.YthhncoogmncdkaaW.PrintLast Go.Proofs.YthhncoogmncdkaaW.PrintMore
set_option linter.unusedVariables false
def isM (M : List (List Int)) : Prop := ∀ r ∈ M, isB r
def rect (n m : Nat) (M : List (List Int)) : Prop := M.length = n ∧ ∀ r ∈ M, r.length = m
theorem rw_lt {M : List (List Int)} {i : Nat} (h : i < M.length) : rw_ M i = M[i] := by simp [rw_, h]
theorem rw_mem {M : List (List Int)} {i : Nat} (h : i < M.length) : rw_ M i ∈ M := by rw [rw_lt h]; exact List.getElem_mem _
theorem rw_ge {M : List (List Int)} {i : Nat} (h : M.length ≤ i) : rw_ M i = [] := by simp [rw_, h]
theorem rw_B {M : List (List Int)} (h : isM M) (i : Nat) : isB (rw_ M i) := by
  by_cases e : i < M.length
  · exact h _ (rw_mem e)
  · rw [rw_ge (by omega)]; exact isB_nil
theorem rect_row {n m : Nat} {M : List (List Int)} (h : rect n m M) {i : Nat} (hi : i < n) : (rw_ M i).length = m := h.2 _ (rw_mem (by rw [h.1]; exact hi))
theorem at_nat (k i j : Nat) (hk : k ≤ 12) (hi : i < 4) (hj : j < 12) : matrix_Cauchy.at_ (k : Int) i j = (((k + i) ^^^ j : Nat) : Int) ∧ (k + i) ^^^ j < 256 := by
  refine ⟨?_, xor_lt (by omega) (by omega)⟩
  unfold matrix_Cauchy.at_
  rw [show (k : Int) + (i : Int) = ((k + i : Nat) : Int) by omega]
  exact u8_xor_nat (k + i) j (by omega) (by omega)
theorem G_val {k i j : Nat} (hk : k ≤ 12) (hi : i < 4) (hj : j < 12) : gf_Inv.f (matrix_Cauchy.at_ (k : Int) i j) = some ((gi ((k + i) ^^^ j) : Int), if (k + i) ^^^ j = 0 then 10 else 0) := by
  obtain ⟨h1, h2⟩ := at_nat k i j hk hi hj
  rw [h1, inv_f _ h2]
theorem G_gi {k i j : Nat} (hk : k ≤ 12) (hi : i < 4) (hj : j < 12) : matrix_Cauchy.G (k : Int) i j = (gi ((k + i) ^^^ j) : Int) := by
  unfold matrix_Cauchy.G
  rw [G_val hk hi hj]; rfl
theorem row_inv {a b : Int} (h1 : 1 ≤ a) (h2 : a ≤ 12) (h4 : b ≤ 4) : codec_Row.inv a b := fun i hi j hj => by
  obtain ⟨k, rfl⟩ : ∃ k : Nat, a = k := ⟨a.toNat, by omega⟩
  rw [G_val (by omega) (by omega) (by omega)]; rfl
theorem oneM_B (k : Nat) : isM (matrix_One.M k) := fun r hr x hx => by
  simp only [matrix_One.M, List.mem_map] at hr
  obtain ⟨i, _, rfl⟩ := hr
  simp only [List.mem_map] at hx
  obtain ⟨j, _, rfl⟩ := hx
  split <;> omega
theorem cauM_B {k r : Nat} (hk : k ≤ 12) (hr : r ≤ 4) : isM (matrix_Cauchy.M k r) := fun y hy x hx => by
  simp only [matrix_Cauchy.M, List.mem_map, List.mem_range] at hy
  obtain ⟨i, hi, rfl⟩ := hy
  simp only [List.mem_map, List.mem_range] at hx
  obtain ⟨j, hj, rfl⟩ := hx
  rw [G_gi hk (by omega) (by omega)]
  have := gi_lt ((k + i) ^^^ j)
  omega
theorem allM_B {k r : Nat} (hk : k ≤ 12) (hr : r ≤ 4) : isM (codec_Row.M k r) := fun y hy => by
  unfold codec_Row.M at hy
  rw [List.mem_append] at hy
  rcases hy with hy | hy
  · exact oneM_B k y hy
  · by_cases e : r = 0
    · rw [if_pos e] at hy; cases hy
    · rw [if_neg e] at hy; exact cauM_B hk hr y hy
theorem allM_rect (k r : Nat) : rect (k + r) k (codec_Row.M k r) := by
  unfold codec_Row.M
  refine ⟨?_, fun y hy => ?_⟩
  · by_cases e : r = 0
    · subst e; simp [matrix_One.M]
    · rw [if_neg e]; simp [matrix_One.M, matrix_Cauchy.M]
  · rw [List.mem_append] at hy
    rcases hy with hy | hy
    · simp only [matrix_One.M, List.mem_map] at hy
      obtain ⟨i, _, rfl⟩ := hy
      simp
    · by_cases e : r = 0
      · rw [if_pos e] at hy; cases hy
      · rw [if_neg e] at hy
        simp only [matrix_Cauchy.M, List.mem_map] at hy
        obtain ⟨i, _, rfl⟩ := hy
        simp
theorem in64_of {a : Int} (h1 : -1000 ≤ a) (h2 : a ≤ 1000) : in64 a := by
  have e1 : IntKind.i64.min = -9223372036854775808 := by decide
  have e2 : IntKind.i64.max = 9223372036854775807 := by decide
  unfold in64 Lit.wf
  simp only [e1, e2, Bool.and_eq_true, decide_eq_true_eq]
  omega
theorem row_f {a b c : Int} (h1 : 1 ≤ a) (h2 : a ≤ 12) (h3 : 0 ≤ b) (h4 : b ≤ 4) (h5 : 0 ≤ c) (h6 : c < a + b) : codec_Row.f a b c = some (rw_ (codec_Row.M a.toNat b.toNat) c.toNat, 0) := by
  unfold codec_Row.f
  rw [if_pos ⟨in64_of (by omega) (by omega), in64_of (by omega) (by omega), in64_of (by omega) (by omega)⟩, if_neg (by unfold codec_Row.bad; omega), if_pos (row_inv h1 h2 h4), if_pos ⟨h5, h6⟩]
theorem row_bad {a b c : Int} (ha : in64 a) (hb : in64 b) (hc : in64 c) (h : ¬ (1 ≤ a ∧ a ≤ 12 ∧ 0 ≤ b ∧ b ≤ 4)) : codec_Row.f a b c = some ([], 2) := by
  unfold codec_Row.f
  rw [if_pos ⟨ha, hb, hc⟩, if_pos (by unfold codec_Row.bad; omega)]
end Go.Proofs.Ythhncoogmncdkaa.Pure
namespace Go.Proofs.Ythhncoogmncdkaa.Pure
open Go Go.RowKit Go.TwoGf Go.Proofs.Ythhncoogmncdkaa Go.Proofs.Ythhncoogmncdkaa.PA Go.Proofs.YthhncoogmncdkaaW.PrintWords Go.Proofs.YthhncoogmncdkaaW.PrintLast Go.Proofs.YthhncoogmncdkaaW.PrintMore
set_option linter.unusedVariables false
/-- cells that may be, and are alike -/
def Alk (n : Nat) (l : List (List Int)) : Prop := ∀ x ∈ l, 1 ≤ x.length ∧ x.length ≤ 65536 ∧ x.length = n
instance alkDec (n : Nat) (l : List (List Int)) : Decidable (Alk n l) := by unfold Alk; infer_instance
theorem alk_dots {n : Nat} {l : List (List Int)} (h : Alk n l) : alk l = true := by
  unfold alk
  rw [List.all_eq_true]
  intro x hx
  have hx' := h x hx
  have e : (rd_L1 l 0).length = n := by
    cases l with
    | nil => cases hx
    | cons y l => exact (h y (by simp)).2.2
  simp [e, hx'.2.2]
  omega
theorem rd_L1_n {n : Nat} {l : List (List Int)} (h : Alk n l) {i : Nat} (hi : i < l.length) : (rd_L1 l (i : Int)).length = n := by
  rw [rd_L1_nat hi]; exact (h _ (List.getElem_mem _)).2.2
/-- may the code be -/
def okK (k r : Int) : Prop := 1 ≤ k ∧ k ≤ 12 ∧ 0 ≤ r ∧ r ≤ 4
instance okKDec (k r : Int) : Decidable (okK k r) := by unfold okK; infer_instance
end Go.Proofs.Ythhncoogmncdkaa.Pure
namespace Go.Proofs.Ythhncoogmncdkaa.Pure
open Go Go.RowKit Go.TwoGf Go.TwoLin Go.Proofs.Ythhncoogmncdkaa Go.Proofs.Ythhncoogmncdkaa.PA Go.Proofs.YthhncoogmncdkaaW.PrintWords Go.Proofs.YthhncoogmncdkaaW.PrintLast
set_option linter.unusedVariables false
def toF (x : Int) : F := F.mk (x.toNat % 256) (Nat.mod_lt _ (by decide))
def ofF (a : F) : Int := (a.v : Int)
theorem v_toF {x : Int} (h : 0 ≤ x ∧ x < 256) : (toF x).v = x.toNat := Nat.mod_eq_of_lt (by omega)
theorem ofF_toF {x : Int} (h : 0 ≤ x ∧ x < 256) : ofF (toF x) = x := by unfold ofF; rw [v_toF h]; omega
theorem ofF_rng (a : F) : 0 ≤ ofF a ∧ ofF a < 256 := ⟨by unfold ofF; omega, by have := a.lt; unfold ofF; omega⟩
theorem toF_ofF (a : F) : toF (ofF a) = a := F.ext (by rw [v_toF (ofF_rng a)]; unfold ofF; omega)
theorem toF_zero : toF 0 = 0 := rfl
theorem ofF_zero : ofF 0 = 0 := rfl
theorem ofF_one : ofF 1 = 1 := rfl
theorem ofF_inj {a b : F} (h : ofF a = ofF b) : a = b := by rw [← toF_ofF a, ← toF_ofF b, h]
theorem toF_eq_zero {x : Int} (h : 0 ≤ x ∧ x < 256) : toF x = 0 ↔ x = 0 := ⟨fun z => by rw [← ofF_toF h, z]; rfl, fun z => by rw [z]; rfl⟩
theorem v_nat {n : Nat} (h : n < 256) : (toF (n : Int)).v = n := Nat.mod_eq_of_lt (by omega)
theorem mul_v {k : Nat} (hk : 9 ≤ k) {x y : Int} (hx : 0 ≤ x ∧ x < 256) (hy : 0 ≤ y ∧ y < 256) : gf_Mul.f k x y = some (ofF (toF x * toF y)) := by
  obtain ⟨a, ha, rfl⟩ := nat_of hx
  obtain ⟨b, hb, rfl⟩ := nat_of hy
  rw [mul_f k a b hk ha hb]
  unfold ofF
  rw [v_mul, v_nat ha, v_nat hb]
theorem xor_v {x y : Int} (hx : 0 ≤ x ∧ x < 256) (hy : 0 ≤ y ∧ y < 256) : Go.bits .xor .u8 x y = ofF (toF x + toF y) := by
  obtain ⟨a, ha, rfl⟩ := nat_of hx
  obtain ⟨b, hb, rfl⟩ := nat_of hy
  rw [u8_xor_nat a b ha hb]
  unfold ofF
  rw [v_add, v_nat ha, v_nat hb]
theorem inv_v {x : Int} (hx : 0 ≤ x ∧ x < 256) : gf_Inv.f x = some (ofF (inv (toF x)), if x = 0 then 10 else 0) := by
  obtain ⟨a, ha, rfl⟩ := nat_of hx
  rw [inv_f a ha]
  unfold ofF
  rw [v_inv, v_nat ha]
  by_cases h : a = 0
  · rw [if_pos h, if_pos (by omega)]
  · rw [if_neg h, if_neg (by omega)]
/-! matrices -/
def cell (M : List (List Int)) (i j : Nat) : F := toF (rd (rw_ M i) (j : Int))
def mkF (n m : Nat) (A : Nat → Nat → F) : List (List Int) := (List.range n).map fun i => (List.range m).map fun j => ofF (A i j)
theorem rd_lt {l : List Int} {j : Nat} (h : j < l.length) : rd l (j : Int) = l[j] := by simp [rd, h]
theorem rd_ge {l : List Int} {j : Nat} (h : l.length ≤ j) : rd l (j : Int) = 0 := by simp [rd, h]
theorem rd_B {l : List Int} (h : isB l) (j : Nat) : 0 ≤ rd l (j : Int) ∧ rd l (j : Int) < 256 := by
  by_cases e : j < l.length
  · rw [rd_lt e]; exact h _ (List.getElem_mem _)
  · rw [rd_ge (by omega)]; decide
theorem cell_rd {M : List (List Int)} (h : isM M) (i j : Nat) : rd (rw_ M i) (j : Int) = ofF (cell M i j) := (ofF_toF (rd_B (rw_B h i) j)).symm
theorem cell_zero {M : List (List Int)} (h : isM M) (i j : Nat) : rd (rw_ M i) (j : Int) = 0 ↔ cell M i j = 0 := (toF_eq_zero (rd_B (rw_B h i) j)).symm
theorem rect_mkF (n m : Nat) (A : Nat → Nat → F) : rect n m (mkF n m A) := ⟨by simp [mkF], fun r hr => by
  simp only [mkF, List.mem_map] at hr
  obtain ⟨i, _, rfl⟩ := hr
  simp⟩
theorem isM_mkF (n m : Nat) (A : Nat → Nat → F) : isM (mkF n m A) := fun r hr x hx => by
  simp only [mkF, List.mem_map] at hr
  obtain ⟨i, _, rfl⟩ := hr
  simp only [List.mem_map] at hx
  obtain ⟨j, _, rfl⟩ := hx
  exact ofF_rng _
theorem rw_mkF {n m : Nat} {A : Nat → Nat → F} {i : Nat} (h : i < n) : rw_ (mkF n m A) i = (List.range m).map fun j => ofF (A i j) := by simp [rw_, mkF, h]
theorem rd_mkF {n m : Nat} {A : Nat → Nat → F} {i j : Nat} (h : i < n) (hj : j < m) : rd (rw_ (mkF n m A) i) (j : Int) = ofF (A i j) := by rw [rw_mkF h]; simp [rd, hj]
theorem cell_mkF {n m : Nat} {A : Nat → Nat → F} {i j : Nat} (h : i < n) (hj : j < m) : cell (mkF n m A) i j = A i j := by unfold cell; rw [rd_mkF h hj, toF_ofF]
theorem ext_rw {M M' : List (List Int)} (hl : M.length = M'.length) (h : ∀ i, i < M.length → rw_ M i = rw_ M' i) : M = M' := by
  apply List.ext_getElem hl
  intro i h1 h2
  have := h i h1
  rwa [rw_lt h1, rw_lt h2] at this
theorem ext_rd {l l' : List Int} (hl : l.length = l'.length) (h : ∀ j : Nat, j < l.length → rd l (j : Int) = rd l' (j : Int)) : l = l' := by
  apply List.ext_getElem hl
  intro i h1 h2
  have := h i h1
  rwa [rd_lt h1, rd_lt h2] at this
theorem ext_cell {n m : Nat} {M M' : List (List Int)} (h1 : rect n m M) (h2 : rect n m M') (b1 : isM M) (b2 : isM M') (h : ∀ i j, i < n → j < m → cell M i j = cell M' i j) : M = M' := by
  refine ext_rw (h1.1.trans h2.1.symm) fun i hi => ?_
  rw [h1.1] at hi
  refine ext_rd ((rect_row h1 hi).trans (rect_row h2 hi).symm) fun j hj => ?_
  rw [rect_row h1 hi] at hj
  rw [cell_rd b1, cell_rd b2, h i j hi hj]
theorem mkF_cell {n m : Nat} {M : List (List Int)} (h : rect n m M) (hb : isM M) : mkF n m (cell M) = M :=
  ext_cell (rect_mkF n m _) h (isM_mkF n m _) hb fun i j hi hj => cell_mkF hi hj
theorem mkF_congr {n m : Nat} {A B : Nat → Nat → F} (h : ∀ i j, i < n → j < m → A i j = B i j) : mkF n m A = mkF n m B :=
  ext_cell (rect_mkF n m _) (rect_mkF n m _) (isM_mkF n m _) (isM_mkF n m _) fun i j hi hj => by rw [cell_mkF hi hj, cell_mkF hi hj, h i j hi hj]
/-! Check -/
def good (M : List (List Int)) : Prop := 1 ≤ M.length ∧ M.length ≤ 32 ∧ 1 ≤ (rw_ M 0).length ∧ (rw_ M 0).length ≤ 32 ∧ ∀ r ∈ M, r.length = (rw_ M 0).length
instance (M : List (List Int)) : Decidable (good M) := by unfold good; infer_instance
def ckv (M : List (List Int)) : Int := if good M then 0 else 30
theorem good_rect {M : List (List Int)} (h : good M) : rect M.length (rw_ M 0).length M := ⟨rfl, h.2.2.2.2⟩
theorem good_of {n m : Nat} {M : List (List Int)} (h : rect n m M) (h1 : 1 ≤ n) (h2 : n ≤ 32) (h3 : 1 ≤ m) (h4 : m ≤ 32) : good M ∧ M.length = n ∧ (rw_ M 0).length = m := by
  have e : (rw_ M 0).length = m := rect_row h (by omega)
  refine ⟨⟨by rw [h.1]; exact h1, by rw [h.1]; exact h2, by rw [e]; exact h3, by rw [e]; exact h4, fun r hr => by rw [e]; exact h.2 r hr⟩, h.1, e⟩
theorem w64 {i : Nat} (h : i < 100000) : wrap64 ((i : Int) + 1) = ((i + 1 : Nat) : Int) := by unfold wrap64; omega
theorem rdL {M : List (List Int)} (i : Nat) : rd_L1 M (i : Int) = rw_ M i := rfl
theorem rdL0 {M : List (List Int)} : rd_L1 M 0 = rw_ M 0 := rfl
theorem check_l0 {M : List (List Int)} (h0 : 0 < M.length) (hM : M.length ≤ 32) : ∀ (d k i : Nat), i + d = M.length → d < k → matrix_Check.l0 k M M (M.length : Int) (i : Int) = some (if ∀ r ∈ M.drop i, 1 ≤ r.length ∧ r.length ≤ 32 ∧ r.length = (rw_ M 0).length then 0 else 30) := by
  intro d
  induction d with
  | zero =>
    intro k i hi hk
    obtain ⟨k, rfl⟩ : ∃ q, k = q + 1 := ⟨k - 1, by omega⟩
    unfold matrix_Check.l0
    rw [if_neg (by omega), List.drop_of_length_le (by omega), if_pos (fun r hr => by cases hr)]
  | succ d ih =>
    intro k i hi hk
    obtain ⟨k, rfl⟩ : ∃ q, k = q + 1 := ⟨k - 1, by omega⟩
    have hil : i < M.length := by omega
    unfold matrix_Check.l0
    rw [if_pos (by omega), if_pos (by omega), if_pos (by omega), rdL, rdL0, List.drop_eq_getElem_cons hil, ← rw_lt hil]
    by_cases h1 : (rw_ M i).length < 1
    · rw [if_pos (by omega), if_neg (fun z => by have := z (rw_ M i) (by simp); omega)]
    rw [if_neg (by omega)]
    by_cases h2 : (rw_ M i).length > 32
    · rw [if_pos (by omega), if_neg (fun z => by have := z (rw_ M i) (by simp); omega)]
    rw [if_neg (by omega), if_pos (by omega)]
    by_cases h3 : (rw_ M i).length = (rw_ M 0).length
    · rw [if_pos (by omega), w64 (by omega), ih k (i + 1) (by omega) (by omega)]
      by_cases h4 : ∀ r ∈ M.drop (i + 1), 1 ≤ r.length ∧ r.length ≤ 32 ∧ r.length = (rw_ M 0).length
      · rw [if_pos h4, if_pos (fun r hr => by
          rcases List.mem_cons.1 hr with rfl | hr
          · exact ⟨by omega, by omega, h3⟩
          · exact h4 r hr)]
      · rw [if_neg h4, if_neg (fun z => h4 fun r hr => z r (List.mem_cons_of_mem _ hr))]
    · rw [if_neg (by omega), if_neg (fun z => by have := z (rw_ M i) (by simp); omega)]
theorem check_f {k : Nat} (hk : 40 ≤ k) (M : List (List Int)) : matrix_Check.f k M = some (ckv M) := by
  obtain ⟨k, rfl⟩ : ∃ q, k = q + 1 := ⟨k - 1, by omega⟩
  unfold matrix_Check.f ckv
  by_cases h1 : M.length < 1
  · rw [if_pos (by omega), if_neg (fun z => by have := z.1; omega)]
    unfold matrix_Check.j0
    rfl
  rw [if_neg (by omega)]
  simp only [matrix_Check.j0]
  by_cases h2 : M.length > 32
  · rw [if_pos (by simp; omega), if_neg (fun z => by have := z.2.1; omega)]
  rw [if_neg (by simp; omega), show (0 : Int) = ((0 : Nat) : Int) from rfl, check_l0 (by omega) (by omega) M.length k 0 (by omega) (by omega), List.drop_zero]
  have h0 := rw_mem (M := M) (i := 0) (by omega)
  by_cases h3 : ∀ r ∈ M, 1 ≤ r.length ∧ r.length ≤ 32 ∧ r.length = (rw_ M 0).length
  · rw [if_pos h3, if_pos ⟨by omega, by omega, (h3 _ h0).1, (h3 _ h0).2.1, fun r hr => (h3 r hr).2.2⟩]; rfl
  · rw [if_neg h3, if_neg (fun z => h3 fun r hr => by have := z.2.2.2.2 r hr; have := z.2.2.1; have := z.2.2.2.1; omega)]
end Go.Proofs.Ythhncoogmncdkaa.Pure
namespace Go.Proofs.Ythhncoogmncdkaa.Pure
open Go Go.RowKit Go.TwoGf Go.TwoLin Go.Proofs.Ythhncoogmncdkaa Go.Proofs.Ythhncoogmncdkaa.PA Go.Proofs.YthhncoogmncdkaaW.PrintWords Go.Proofs.YthhncoogmncdkaaW.PrintLast
set_option linter.unusedVariables false
theorem rd_set {x : List Int} {i : Nat} (hi : i < x.length) (v : Int) (j : Nat) : rd (x.set i v) (j : Int) = if j = i then v else rd x (j : Int) := by
  unfold rd
  rw [Int.toNat_natCast, List.getD_eq_getElem?_getD, List.getD_eq_getElem?_getD, List.getElem?_set]
  by_cases h : i = j
  · subst h; simp [hi]
  · rw [if_neg h, if_neg (fun z => h z.symm)]
theorem isB_set {x : List Int} (h : isB x) {i : Nat} {v : Int} (hv : 0 ≤ v ∧ v < 256) : isB (x.set i v) := fun y hy => by
  rcases List.mem_or_eq_of_mem_set hy with h1 | h1
  · exact h y h1
  · rw [h1]; exact hv
theorem times_l0 {c : Int} (hc : 0 ≤ c ∧ c < 256) {n : Nat} (hn : n ≤ 1000) : ∀ (d k i : Nat) (x : List Int), x.length = n → i + d = n → d + 10 < k → isB x →
    ∃ r, matrix_times.l0 k x c (n : Int) (i : Int) = some r ∧ r.length = n ∧ isB r ∧ (∀ j, j < i → rd r (j : Int) = rd x (j : Int)) ∧ (∀ j, i ≤ j → toF (rd r (j : Int)) = toF (rd x (j : Int)) * toF c) := by
  intro d
  induction d with
  | zero =>
    intro k i x hx hi hk hb
    obtain ⟨k, rfl⟩ : ∃ q, k = q + 1 := ⟨k - 1, by omega⟩
    unfold matrix_times.l0
    rw [if_neg (by omega)]
    refine ⟨x, rfl, hx, hb, fun _ _ => rfl, fun j hj => ?_⟩
    rw [rd_ge (by omega), toF_zero, zero_mul]
  | succ d ih =>
    intro k i x hx hi hk hb
    obtain ⟨k, rfl⟩ : ∃ q, k = q + 1 := ⟨k - 1, by omega⟩
    unfold matrix_times.l0
    rw [if_pos (by omega), if_pos (by omega), if_pos (by omega), mul_v (by omega) (rd_B hb i) hc, Option.bind_some, Int.toNat_natCast, w64 (by omega)]
    obtain ⟨r, h1, h2, h3, h4, h5⟩ := ih k (i + 1) (x.set i (ofF (toF (rd x (i : Int)) * toF c))) (by simpa using hx) (by omega) (by omega) (isB_set hb (ofF_rng _))
    refine ⟨r, h1, h2, h3, fun j hj => ?_, fun j hj => ?_⟩
    · rw [h4 j (by omega), rd_set (by omega), if_neg (by omega)]
    · by_cases e : j = i
      · subst e
        rw [h4 j (by omega), rd_set (by omega), if_pos rfl, toF_ofF]
      · rw [h5 j (by omega), rd_set (by omega), if_neg e]
theorem times_v {k : Nat} {l : List Int} {c : Int} (hk : l.length + 10 < k) (hl : l.length ≤ 1000) (hb : isB l) (hc : 0 ≤ c ∧ c < 256) : ∃ r, matrix_times.f k l c = some r ∧ r.length = l.length ∧ isB r ∧ ∀ j : Nat, toF (rd r (j : Int)) = toF (rd l (j : Int)) * toF c := by
  obtain ⟨r, h1, h2, h3, _, h5⟩ := times_l0 hc hl l.length k 0 l rfl (by omega) (by omega) hb
  exact ⟨r, h1, h2, h3, fun j => h5 j (by omega)⟩
theorem plus_l0 {c : Int} (hc : 0 ≤ c ∧ c < 256) {n : Nat} (hn : n ≤ 1000) {b : List Int} (hbl : b.length = n) (hbb : isB b) : ∀ (d k i : Nat) (x : List Int), x.length = n → i + d = n → d + 10 < k → isB x →
    ∃ r, matrix_plus.l0 k x c b (n : Int) (i : Int) = some r ∧ r.length = n ∧ isB r ∧ (∀ j, j < i → rd r (j : Int) = rd x (j : Int)) ∧ (∀ j, i ≤ j → toF (rd r (j : Int)) = toF (rd x (j : Int)) + toF c * toF (rd b (j : Int))) := by
  intro d
  induction d with
  | zero =>
    intro k i x hx hi hk hb
    obtain ⟨k, rfl⟩ : ∃ q, k = q + 1 := ⟨k - 1, by omega⟩
    unfold matrix_plus.l0
    rw [if_neg (by omega)]
    refine ⟨x, rfl, hx, hb, fun _ _ => rfl, fun j hj => ?_⟩
    rw [rd_ge (by omega), rd_ge (by omega), toF_zero, mul_zero, add_zero]
  | succ d ih =>
    intro k i x hx hi hk hb
    obtain ⟨k, rfl⟩ : ∃ q, k = q + 1 := ⟨k - 1, by omega⟩
    unfold matrix_plus.l0
    rw [if_pos (by omega), if_pos (by omega), if_pos (by omega), if_pos (by omega), mul_v (by omega) hc (rd_B hbb i), Option.bind_some]
    unfold gf_Add.f
    rw [Option.bind_some, Int.toNat_natCast, w64 (by omega), xor_v (rd_B hb i) (ofF_rng _), toF_ofF]
    obtain ⟨r, h1, h2, h3, h4, h5⟩ := ih k (i + 1) (x.set i (ofF (toF (rd x (i : Int)) + toF c * toF (rd b (i : Int))))) (by simpa using hx) (by omega) (by omega) (isB_set hb (ofF_rng _))
    refine ⟨r, h1, h2, h3, fun j hj => ?_, fun j hj => ?_⟩
    · rw [h4 j (by omega), rd_set (by omega), if_neg (by omega)]
    · by_cases e : j = i
      · subst e
        rw [h4 j (by omega), rd_set (by omega), if_pos rfl, toF_ofF]
      · rw [h5 j (by omega), rd_set (by omega), if_neg e]
theorem plus_v {k : Nat} {a b : List Int} {c : Int} (hk : a.length + 10 < k) (hl : a.length ≤ 1000) (hab : b.length = a.length) (ha : isB a) (hb : isB b) (hc : 0 ≤ c ∧ c < 256) : ∃ r, matrix_plus.f k a c b = some r ∧ r.length = a.length ∧ isB r ∧ ∀ j : Nat, toF (rd r (j : Int)) = toF (rd a (j : Int)) + toF c * toF (rd b (j : Int)) := by
  obtain ⟨r, h1, h2, h3, _, h5⟩ := plus_l0 hc hl hab hb a.length k 0 a rfl (by omega) (by omega) ha
  exact ⟨r, h1, h2, h3, fun j => h5 j (by omega)⟩
/-! rows that are put back -/
theorem isM_set {M : List (List Int)} (h : isM M) {i : Nat} {r : List Int} (hr : isB r) : isM (M.set i r) := fun y hy => by
  rcases List.mem_or_eq_of_mem_set hy with h1 | h1
  · exact h y h1
  · rw [h1]; exact hr
theorem rect_set {n m : Nat} {M : List (List Int)} (h : rect n m M) {i : Nat} {r : List Int} (hr : r.length = m) : rect n m (M.set i r) := ⟨by simpa using h.1, fun y hy => by
  rcases List.mem_or_eq_of_mem_set hy with h1 | h1
  · exact h.2 y h1
  · rw [h1]; exact hr⟩
theorem isM_sw {M : List (List Int)} (h : isM M) (i j : Nat) : isM (swL M i j) := isM_set (isM_set h (rw_B h j)) (rw_B h i)
theorem rect_sw {n m : Nat} {M : List (List Int)} (h : rect n m M) {i j : Nat} (hi : i < n) (hj : j < n) : rect n m (swL M i j) := rect_set (rect_set h (rect_row h hj)) (rect_row h hi)
/-- a matrix, and another one beside -/
def J (m : Nat) (M B : List (List Int)) (i j : Nat) : F := if j < m then cell M i j else cell B i (j - m)
theorem Inv_congr {n j r : Nat} {piv : Nat → Nat} {X Y : Nat → Nat → F} (h : ∀ i j, i < n → X i j = Y i j) (hI : Inv n j r piv X) : Inv n j r piv Y :=
  ⟨hI.le, hI.lt, hI.up, fun a ha => by rw [← h _ _ (Nat.lt_of_lt_of_le ha hI.le)]; exact hI.nz a ha, fun a ha i hi hne => by rw [← h _ _ hi]; exact hI.off a ha i hi hne, fun i h1 h2 k hk => by rw [← h _ _ h2]; exact hI.low i h1 h2 k hk⟩
theorem Eqv_congr {n : Nat} {X Y Z : Nat → Nat → F} (h : ∀ i j, i < n → Y i j = Z i j) (hE : Eqv n X Y) : Eqv n X Z := by
  obtain ⟨⟨Q, hQ⟩, P, hP⟩ := hE
  exact ⟨⟨Q, fun i j hi => (h i j hi).symm.trans (hQ i j hi)⟩, P, fun i j hi => (hP i j hi).trans (mm_congr (fun _ _ => rfl) fun k hk => h k j hk)⟩
theorem find_spec (M : List (List Int)) (j : Nat) : ∀ d i, (matrix_solve.find M j d i = i + d ∧ ∀ q, i ≤ q → q < i + d → rd (rw_ M q) (j : Int) = 0) ∨ (i ≤ matrix_solve.find M j d i ∧ matrix_solve.find M j d i < i + d ∧ rd (rw_ M (matrix_solve.find M j d i)) (j : Int) ≠ 0)
  | 0, i => .inl ⟨rfl, fun q h1 h2 => by omega⟩
  | d + 1, i => by
    unfold matrix_solve.find
    by_cases h : rd (rw_ M i) (j : Int) ≠ 0
    · rw [if_pos h]; exact .inr ⟨Nat.le_refl _, by omega, h⟩
    · rw [if_neg h]
      rcases find_spec M j d (i + 1) with ⟨h1, h2⟩ | ⟨h1, h2, h3⟩
      · refine .inl ⟨by omega, fun q hq1 hq2 => ?_⟩
        by_cases e : q = i
        · rw [e]; exact Classical.byContradiction h
        · exact h2 q (by omega) (by omega)
      · exact .inr ⟨by omega, by omega, h3⟩
theorem clear_v {k j n n0 m m2 : Nat} (hm : m ≤ 100) (hm2 : m2 ≤ 100) (hk : 200 ≤ k) (hn : n < n0) : ∀ (d i : Nat) (M B : List (List Int)), rect n0 m M → rect n0 m2 B → isM M → isM B → i + d = n0 →
    ∃ M' B', matrix_solve.clear k j n d i M B = some (M', B') ∧ rect n0 m M' ∧ rect n0 m2 B' ∧ isM M' ∧ isM B' ∧ (∀ q, q < n0 → q < i ∨ q = n → rw_ M' q = rw_ M q ∧ rw_ B' q = rw_ B q) ∧
      (∀ q, i ≤ q → q < n0 → q ≠ n → ∀ l, cell M' q l = cell M q l + cell M q j * cell M n l ∧ cell B' q l = cell B q l + cell M q j * cell B n l) := by
  intro d
  induction d with
  | zero =>
    intro i M B hM hB bM bB hi
    unfold matrix_solve.clear
    exact ⟨M, B, rfl, hM, hB, bM, bB, fun _ _ _ => ⟨rfl, rfl⟩, fun q h1 h2 => by omega⟩
  | succ d ih =>
    intro i M B hM hB bM bB hi
    unfold matrix_solve.clear
    have hil : i < M.length := by rw [hM.1]; omega
    have hil2 : i < B.length := by rw [hB.1]; omega
    by_cases h : i ≠ n ∧ rd (rw_ M i) (j : Int) ≠ 0
    · rw [if_pos h]
      obtain ⟨r, r1, r2, r3, r4⟩ := plus_v (k := k) (a := rw_ M i) (b := rw_ M n) (c := rd (rw_ M i) (j : Int)) (by rw [rect_row hM (by omega)]; omega) (by rw [rect_row hM (by omega)]; omega) (by rw [rect_row hM (by omega), rect_row hM (by omega)]) (rw_B bM i) (rw_B bM n) (rd_B (rw_B bM i) j)
      obtain ⟨s, s1, s2, s3, s4⟩ := plus_v (k := k) (a := rw_ B i) (b := rw_ B n) (c := rd (rw_ M i) (j : Int)) (by rw [rect_row hB (by omega)]; omega) (by rw [rect_row hB (by omega)]; omega) (by rw [rect_row hB (by omega), rect_row hB (by omega)]) (rw_B bB i) (rw_B bB n) (rd_B (rw_B bM i) j)
      rw [r1, Option.bind_some, s1, Option.bind_some]
      obtain ⟨M', B', h1, h2, h3, h4, h5, h6, h7⟩ := ih (i + 1) (M.set i r) (B.set i s) (rect_set hM (by rw [r2, rect_row hM (by omega)])) (rect_set hB (by rw [s2, rect_row hB (by omega)])) (isM_set bM r3) (isM_set bB s3) (by omega)
      refine ⟨M', B', h1, h2, h3, h4, h5, fun q hq hqi => ?_, fun q h8 h9 h10 l => ?_⟩
      · have := h6 q hq (by omega)
        rw [rw_set hil, rw_set hil2, if_neg (by omega), if_neg (by omega)] at this
        exact this
      · by_cases e : q = i
        · subst e
          have := h6 q h9 (by omega)
          rw [rw_set hil, rw_set hil2, if_pos rfl, if_pos rfl] at this
          unfold cell
          rw [this.1, this.2, r4, s4]
          exact ⟨rfl, rfl⟩
        · have := h7 q (by omega) h9 h10 l
          have c1 : ∀ l, cell (M.set i r) q l = cell M q l := fun l => by unfold cell; rw [rw_set hil, if_neg e]
          have c2 : ∀ l, cell (M.set i r) n l = cell M n l := fun l => by unfold cell; rw [rw_set hil, if_neg (by omega)]
          have c3 : ∀ l, cell (B.set i s) q l = cell B q l := fun l => by unfold cell; rw [rw_set hil2, if_neg e]
          have c4 : ∀ l, cell (B.set i s) n l = cell B n l := fun l => by unfold cell; rw [rw_set hil2, if_neg (by omega)]
          rw [c1, c1, c2, c3, c4] at this
          exact this
    · rw [if_neg h]
      obtain ⟨M', B', h1, h2, h3, h4, h5, h6, h7⟩ := ih (i + 1) M B hM hB bM bB (by omega)
      refine ⟨M', B', h1, h2, h3, h4, h5, fun q hq hqi => h6 q hq (by omega), fun q h8 h9 h10 l => ?_⟩
      by_cases e : q = i
      · subst e
        have := h6 q h9 (by omega)
        have hz : cell M q j = 0 := (cell_zero bM q j).1 (Classical.byContradiction fun z => h ⟨h10, z⟩)
        have e1 : cell M' q l = cell M q l := by unfold cell; rw [this.1]
        have e2 : cell B' q l = cell B q l := by unfold cell; rw [this.2]
        rw [e1, e2, hz, zero_mul, zero_mul, add_zero, add_zero]
        exact ⟨rfl, rfl⟩
      · exact h7 q (by omega) h9 h10 l
theorem cell_swL {n m : Nat} {M : List (List Int)} (h : rect n m M) {a r : Nat} (ha : a < n) (hr : r < n) (q l : Nat) : cell (swL M a r) q l = if q = r then cell M a l else cell M (sw r a q) l := by
  unfold cell
  rw [rw_swL (by rw [h.1]; exact ha) (by rw [h.1]; exact hr)]
  unfold swp sw
  by_cases e1 : q = a
  · by_cases e2 : q = r
    · rw [if_pos e1, if_pos e2, ← e1, e2]
    · rw [if_pos e1, if_neg e2, if_neg e2, if_pos e1]
  · by_cases e2 : q = r
    · rw [if_neg e1, if_pos e2, if_pos e2]
    · rw [if_neg e1, if_neg e2, if_neg e2, if_neg e2, if_neg e1]
theorem cols_v {k n0 m m2 : Nat} (hn0 : n0 ≤ 100) (hm : m ≤ 100) (hm2 : m2 ≤ 100) (hk : 200 ≤ k) : ∀ (d j n : Nat) (M B : List (List Int)) (piv : Nat → Nat), rect n0 m M → rect n0 m2 B → isM M → isM B → j + d = m → Inv n0 j n piv (J m M B) → (∀ a, a < n → J m M B a (piv a) = 1) →
    ∃ (M' B' : List (List Int)) (r : Nat) (piv' : Nat → Nat), matrix_solve.cols k d j n M B = some (M', B', r) ∧ rect n0 m M' ∧ rect n0 m2 B' ∧ isM M' ∧ isM B' ∧ Inv n0 m r piv' (J m M' B') ∧ (∀ a, a < r → J m M' B' a (piv' a) = 1) ∧ Eqv n0 (J m M B) (J m M' B') := by
  intro d
  induction d with
  | zero =>
    intro j n M B piv hM hB bM bB hj hI h1
    obtain rfl : j = m := by omega
    exact ⟨M, B, n, piv, rfl, hM, hB, bM, bB, hI, h1, Eqv_refl _ _⟩
  | succ d ih =>
    intro j n M B piv hM hB bM bB hj hI h1
    have hjm : j < m := by omega
    have hJ : ∀ q, J m M B q j = cell M q j := fun q => by unfold J; rw [if_pos hjm]
    unfold matrix_solve.cols
    have hnl := hI.le
    rcases find_spec M j (M.length - n) n with ⟨f1, f2⟩ | ⟨f1, f2, f3⟩
    · rw [if_pos (by rw [f1, hM.1]; omega)]
      exact ih (j + 1) n M B piv hM hB bM bB (by omega) (Inv_skip hI fun i h2 h3 => by rw [hJ]; exact (cell_zero bM i j).1 (f2 i h2 (by rw [hM.1]; omega))) h1
    · rw [if_neg (by omega)]
      rw [hM.1] at f1 f2 f3 ⊢
      generalize matrix_solve.find M j (n0 - n) n = a at f1 f2 f3
      have ha : a < n0 := by omega
      have hn : n < n0 := by omega
      have hx : cell M a j ≠ 0 := fun z => f3 ((cell_zero bM a j).2 z)
      have hs1 := rect_sw hM ha hn
      have hs2 := rect_sw hB ha hn
      have bs1 := isM_sw bM a n
      have bs2 := isM_sw bB a n
      have hp : rd (rw_ (swL M a n) n) (j : Int) = rd (rw_ M a) (j : Int) := by
        rw [cell_rd bs1, cell_rd bM, cell_swL hM ha hn, if_pos rfl]
      rw [hp, inv_v (rd_B (rw_B bM a) j), Option.bind_some]
      simp only
      obtain ⟨r, r1, r2, r3, r4⟩ := times_v (k := k) (l := rw_ (swL M a n) n) (c := ofF (inv (toF (rd (rw_ M a) (j : Int))))) (by rw [rect_row hs1 hn]; omega) (by rw [rect_row hs1 hn]; omega) (rw_B bs1 n) (ofF_rng _)
      obtain ⟨s, s1, s2, s3, s4⟩ := times_v (k := k) (l := rw_ (swL B a n) n) (c := ofF (inv (toF (rd (rw_ M a) (j : Int))))) (by rw [rect_row hs2 hn]; omega) (by rw [rect_row hs2 hn]; omega) (rw_B bs2 n) (ofF_rng _)
      rw [r1, Option.bind_some, s1, Option.bind_some]
      have hl1 : n < (swL M a n).length := by rw [hs1.1]; exact hn
      have hl2 : n < (swL B a n).length := by rw [hs2.1]; exact hn
      obtain ⟨M', B', q1, q2, q3, q4, q5, q6, q7⟩ := clear_v (k := k) (j := j) hm hm2 hk hn n0 0 ((swL M a n).set n r) ((swL B a n).set n s) (rect_set hs1 (by rw [r2, rect_row hs1 hn])) (rect_set hs2 (by rw [s2, rect_row hs2 hn])) (isM_set bs1 r3) (isM_set bs2 s3) (by omega)
      rw [q1, Option.bind_some]
      simp only
      have cn1 : ∀ l, cell ((swL M a n).set n r) n l = inv (cell M a j) * cell M a l := fun l => by
        have : cell ((swL M a n).set n r) n l = toF (rd r (l : Int)) := by unfold cell; rw [rw_set hl1, if_pos rfl]
        rw [this, r4, toF_ofF, mul_comm]
        have e : toF (rd (rw_ (swL M a n) n) (l : Int)) = cell (swL M a n) n l := rfl
        rw [e, cell_swL hM ha hn, if_pos rfl]
        rfl
      have cn2 : ∀ l, cell ((swL B a n).set n s) n l = inv (cell M a j) * cell B a l := fun l => by
        have : cell ((swL B a n).set n s) n l = toF (rd s (l : Int)) := by unfold cell; rw [rw_set hl2, if_pos rfl]
        rw [this, s4, toF_ofF, mul_comm]
        have e : toF (rd (rw_ (swL B a n) n) (l : Int)) = cell (swL B a n) n l := rfl
        rw [e, cell_swL hB ha hn, if_pos rfl]
        rfl
      have co1 : ∀ q l, q ≠ n → cell ((swL M a n).set n r) q l = cell M (sw n a q) l := fun q l hq => by
        have : cell ((swL M a n).set n r) q l = cell (swL M a n) q l := by unfold cell; rw [rw_set hl1, if_neg hq]
        rw [this, cell_swL hM ha hn, if_neg hq]
      have co2 : ∀ q l, q ≠ n → cell ((swL B a n).set n s) q l = cell B (sw n a q) l := fun q l hq => by
        have : cell ((swL B a n).set n s) q l = cell (swL B a n) q l := by unfold cell; rw [rw_set hl2, if_neg hq]
        rw [this, cell_swL hB ha hn, if_neg hq]
      have hst : ∀ i l, i < n0 → stp (J m M B) n a (inv (cell M a j)) (fun q => cell M (sw n a q) j) i l = J m M' B' i l := fun i l hi => by
        unfold stp J
        by_cases e : i = n
        · subst e
          have := q6 i hi (.inr rfl)
          have e1 : cell M' i l = cell ((swL M a i).set i r) i l := by unfold cell; rw [this.1]
          have e2 : cell B' i (l - m) = cell ((swL B a i).set i s) i (l - m) := by unfold cell; rw [this.2]
          rw [if_pos rfl, e1, e2, cn1, cn2]
          split <;> rfl
        · have h8 := q7 i (Nat.zero_le _) hi e
          rw [if_neg e, (h8 l).1, (h8 (l - m)).2, co1 _ _ e, co1 _ _ e, co2 _ _ e, cn1, cn2]
          split <;> rfl
      have hd : ∀ i, i < n0 → i ≠ n → stp (J m M B) n a (inv (cell M a j)) (fun q => cell M (sw n a q) j) i j = 0 := fun i hi hne => by
        unfold stp
        rw [if_neg hne, hJ, hJ, inv_mul hx, mul_one, add_self]
      have hstep := Inv_step (c := inv (cell M a j)) (d := fun q => cell M (sw n a q) j) hI f1 ha (by rw [hJ]; exact hx) (inv_ne hx) hd
      have hone : ∀ b, b < n + 1 → J m M' B' b (if b = n then j else piv b) = 1 := fun b hb => by
        rw [← hst b _ (by omega)]
        unfold stp
        by_cases e : b = n
        · rw [if_pos e, if_pos e, hJ, inv_mul hx]
        · rw [if_neg e, if_neg e]
          have e3 : sw n a b = b := by unfold sw; rw [if_neg e, if_neg (by omega)]
          rw [e3, hI.off b (by omega) a ha (by omega), mul_zero, mul_zero, add_zero, h1 b (by omega)]
      obtain ⟨M2, B2, r', piv', t1, t2, t3, t4, t5, t6, t7, t8⟩ := ih (j + 1) (n + 1) M' B' (fun b => if b = n then j else piv b) q2 q3 q4 q5 (by omega) (Inv_congr hst hstep) hone
      exact ⟨M2, B2, r', piv', t1, t2, t3, t4, t5, t6, t7, Eqv_trans (Eqv_congr hst (Eqv_stp (inv_ne hx) hn ha _ _)) t8⟩
theorem solve_v {k n0 m m2 : Nat} {M B : List (List Int)} (h0 : 0 < n0) (hn0 : n0 ≤ 100) (hm : m ≤ 100) (hm2 : m2 ≤ 100) (hk : 200 ≤ k) (hM : rect n0 m M) (hB : rect n0 m2 B) (bM : isM M) (bB : isM B) :
    ∃ (M' B' : List (List Int)) (r : Nat) (piv : Nat → Nat), matrix_solve.f k M B = some (M', B', r) ∧ rect n0 m M' ∧ rect n0 m2 B' ∧ isM M' ∧ isM B' ∧ Inv n0 m r piv (J m M' B') ∧ (∀ a, a < r → J m M' B' a (piv a) = 1) ∧ Eqv n0 (J m M B) (J m M' B') := by
  unfold matrix_solve.f
  rw [rect_row hM h0]
  exact cols_v hn0 hm hm2 hk m 0 0 M B (fun a => a) hM hB bM bB (by omega) (Inv_start _ _ _) (fun a ha => by omega)
theorem J_left {m : Nat} {M B : List (List Int)} {i j : Nat} (h : j < m) : J m M B i j = cell M i j := if_pos h
theorem J_right (m : Nat) (M B : List (List Int)) (i j : Nat) : J m M B i (m + j) = cell B i j := by unfold J; rw [if_neg (by omega), Nat.add_sub_cancel_left]
end Go.Proofs.Ythhncoogmncdkaa.Pure
