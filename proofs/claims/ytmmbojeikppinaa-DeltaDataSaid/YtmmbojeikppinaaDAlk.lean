/- Cells that may be, and are alike; numbers that may be. No condition. -/
import Derived.Test.YtmmbojeikppinaaPDx5
import Derived.Test.YtmmbojeikppinaaDInv
import Derived.Test.YtmmbojeikppinaaDKer
namespace Go.Proofs.Ytmmbojeikppinaa.Pure
open Go Go.RowKit Go.TwoGf Go.Proofs.Ytmmbojeikppinaa Go.Proofs.Ytmmbojeikppinaa.PD Go.Proofs.YtmmbojeikppinaaW.PrintWords Go.Proofs.YtmmbojeikppinaaW.PrintLast Go.Proofs.YtmmbojeikppinaaW.PrintMore
set_option linter.unusedVariables false
def isM (M : List (List Int)) : Prop := ∀ r ∈ M, isB r
def rect (n m : Nat) (M : List (List Int)) : Prop := M.length = n ∧ ∀ r ∈ M, r.length = m
theorem rw_lt {M : List (List Int)} {i : Nat} (h : i < M.length) : rw_ M i = M[i] := by simp [rw_, h]
theorem rw_mem {M : List (List Int)} {i : Nat} (h : i < M.length) : rw_ M i ∈ M := by rw [rw_lt h]; exact List.getElem_mem _
theorem rw_ge {M : List (List Int)} {i : Nat} (h : M.length ≤ i) : rw_ M i = [] := by simp [rw_, h]
theorem rw_B {M : List (List Int)} (h : isM M) (i : Nat) : isB (rw_ M i) := by
  by_cases e : i < M.length
  · exact h _ (rw_mem e)
  · rw [rw_ge (by omega)]; exact isB_nil
theorem rect_row {n m : Nat} {M : List (List Int)} (h : rect n m M) {i : Nat} (hi : i < n) : (rw_ M i).length = m := h.2 _ (rw_mem (by rw [h.1]; exact hi))
theorem at_nat (k i j : Nat) (hk : k ≤ 12) (hi : i < 4) (hj : j < 12) : matrix_Cauchy.at_ (k : Int) i j = (((k + i) ^^^ j : Nat) : Int) ∧ (k + i) ^^^ j < 256 := by
  refine ⟨?_, xor_lt (by omega) (by omega)⟩
  unfold matrix_Cauchy.at_
  rw [show (k : Int) + (i : Int) = ((k + i : Nat) : Int) by omega]
  exact u8_xor_nat (k + i) j (by omega) (by omega)
theorem G_val {k i j : Nat} (hk : k ≤ 12) (hi : i < 4) (hj : j < 12) : gf_Inv.f (matrix_Cauchy.at_ (k : Int) i j) = some ((gi ((k + i) ^^^ j) : Int), if (k + i) ^^^ j = 0 then 10 else 0) := by
  obtain ⟨h1, h2⟩ := at_nat k i j hk hi hj
  rw [h1, inv_f _ h2]
theorem G_gi {k i j : Nat} (hk : k ≤ 12) (hi : i < 4) (hj : j < 12) : matrix_Cauchy.G (k : Int) i j = (gi ((k + i) ^^^ j) : Int) := by
  unfold matrix_Cauchy.G
  rw [G_val hk hi hj]; rfl
theorem row_inv {a b : Int} (h1 : 1 ≤ a) (h2 : a ≤ 12) (h4 : b ≤ 4) : codec_Row.inv a b := fun i hi j hj => by
  obtain ⟨k, rfl⟩ : ∃ k : Nat, a = k := ⟨a.toNat, by omega⟩
  rw [G_val (by omega) (by omega) (by omega)]; rfl
theorem oneM_B (k : Nat) : isM (matrix_One.M k) := fun r hr x hx => by
  simp only [matrix_One.M, List.mem_map] at hr
  obtain ⟨i, _, rfl⟩ := hr
  simp only [List.mem_map] at hx
  obtain ⟨j, _, rfl⟩ := hx
  split <;> omega
theorem cauM_B {k r : Nat} (hk : k ≤ 12) (hr : r ≤ 4) : isM (matrix_Cauchy.M k r) := fun y hy x hx => by
  simp only [matrix_Cauchy.M, List.mem_map, List.mem_range] at hy
  obtain ⟨i, hi, rfl⟩ := hy
  simp only [List.mem_map, List.mem_range] at hx
  obtain ⟨j, hj, rfl⟩ := hx
  rw [G_gi hk (by omega) (by omega)]
  have := gi_lt ((k + i) ^^^ j)
  omega
theorem allM_B {k r : Nat} (hk : k ≤ 12) (hr : r ≤ 4) : isM (codec_Row.M k r) := fun y hy => by
  unfold codec_Row.M at hy
  rw [List.mem_append] at hy
  rcases hy with hy | hy
  · exact oneM_B k y hy
  · by_cases e : r = 0
    · rw [if_pos e] at hy; cases hy
    · rw [if_neg e] at hy; exact cauM_B hk hr y hy
theorem allM_rect (k r : Nat) : rect (k + r) k (codec_Row.M k r) := by
  unfold codec_Row.M
  refine ⟨?_, fun y hy => ?_⟩
  · by_cases e : r = 0
    · subst e; simp [matrix_One.M]
    · rw [if_neg e]; simp [matrix_One.M, matrix_Cauchy.M]
  · rw [List.mem_append] at hy
    rcases hy with hy | hy
    · simp only [matrix_One.M, List.mem_map] at hy
      obtain ⟨i, _, rfl⟩ := hy
      simp
    · by_cases e : r = 0
      · rw [if_pos e] at hy; cases hy
      · rw [if_neg e] at hy
        simp only [matrix_Cauchy.M, List.mem_map] at hy
        obtain ⟨i, _, rfl⟩ := hy
        simp
theorem in64_of {a : Int} (h1 : -1000 ≤ a) (h2 : a ≤ 1000) : in64 a := by
  have e1 : IntKind.i64.min = -9223372036854775808 := by decide
  have e2 : IntKind.i64.max = 9223372036854775807 := by decide
  unfold in64 Lit.wf
  simp only [e1, e2, Bool.and_eq_true, decide_eq_true_eq]
  omega
theorem row_f {a b c : Int} (h1 : 1 ≤ a) (h2 : a ≤ 12) (h3 : 0 ≤ b) (h4 : b ≤ 4) (h5 : 0 ≤ c) (h6 : c < a + b) : codec_Row.f a b c = some (rw_ (codec_Row.M a.toNat b.toNat) c.toNat, 0) := by
  unfold codec_Row.f
  rw [if_pos ⟨in64_of (by omega) (by omega), in64_of (by omega) (by omega), in64_of (by omega) (by omega)⟩, if_neg (by unfold codec_Row.bad; omega), if_pos (row_inv h1 h2 h4), if_pos ⟨h5, h6⟩]
theorem row_bad {a b c : Int} (ha : in64 a) (hb : in64 b) (hc : in64 c) (h : ¬ (1 ≤ a ∧ a ≤ 12 ∧ 0 ≤ b ∧ b ≤ 4)) : codec_Row.f a b c = some ([], 2) := by
  unfold codec_Row.f
  rw [if_pos ⟨ha, hb, hc⟩, if_pos (by unfold codec_Row.bad; omega)]
end Go.Proofs.Ytmmbojeikppinaa.Pure
namespace Go.Proofs.Ytmmbojeikppinaa.Pure
open Go Go.RowKit Go.TwoGf Go.Proofs.Ytmmbojeikppinaa Go.Proofs.Ytmmbojeikppinaa.PD Go.Proofs.YtmmbojeikppinaaW.PrintWords Go.Proofs.YtmmbojeikppinaaW.PrintLast Go.Proofs.YtmmbojeikppinaaW.PrintMore
set_option linter.unusedVariables false
def by8 (x : Int) : Prop := 0 ≤ x ∧ x < 256
theorem aI_right {x : Int} (hx : by8 x) : aI x 0 = x := by rw [aI_comm hx (by decide), aI_zero hx]
theorem aI_turn {x y z : Int} (hx : by8 x) (hy : by8 y) (hz : by8 z) : aI (aI x y) z = aI (aI x z) y := by
  rw [aI_assoc hx hy hz, aI_comm hy hz, ← aI_assoc hx hz hy]
theorem aI_back {x y : Int} (hx : by8 x) (hy : by8 y) : aI (aI x y) y = x := by
  rw [aI_assoc hx hy hy, aI_self hy, aI_right hx]
theorem addv_comm {c d : Int} : ∀ {a b e : List Int}, isB a → addv (addv a c b) d e = addv (addv a d e) c b
  | [], _, _, _ => by simp [addv]
  | _ :: _, [], [], _ => by simp [addv]
  | _ :: _, [], _ :: _, _ => by simp [addv]
  | _ :: _, _ :: _, [], _ => by simp [addv]
  | x :: a, y :: b, z :: e, ha => by
    have := addv_comm (c := c) (d := d) (b := b) (e := e) (isB_cons ha).2
    simp only [addv, List.zipWith_cons_cons] at this ⊢
    rw [this, aI_turn (isB_cons ha).1 (mI_rng _ _) (mI_rng _ _)]
theorem addv_twice {c : Int} : ∀ {a b : List Int}, isB a → a.length ≤ b.length → addv (addv a c b) c b = a
  | [], _, _, _ => by simp [addv]
  | _ :: _, [], _, h => by simp at h
  | x :: a, y :: b, ha, h => by
    have := addv_twice (c := c) (b := b) (isB_cons ha).2 (by simpa using h)
    simp only [addv, List.zipWith_cons_cons] at this ⊢
    rw [this, aI_back (isB_cons ha).1 (mI_rng _ _)]
theorem dacc_addv {c : Int} {b : List Int} : ∀ {cs : List Int} {bs : List (List Int)} {acc : List Int}, isB acc → dacc (addv acc c b) cs bs = addv (dacc acc cs bs) c b
  | [], _, _, _ => rfl
  | _ :: _, [], _, _ => rfl
  | d :: cs, e :: bs, acc, h => by
    rw [dacc, dacc, addv_comm h, dacc_addv (addv_B _ h)]
theorem dacc_twice : ∀ {cs : List Int} {bs : List (List Int)} {acc : List Int}, isB acc → (∀ b ∈ bs, acc.length ≤ b.length) → dacc (dacc acc cs bs) cs bs = acc
  | [], _, _, _, _ => rfl
  | _ :: _, [], _, _, _ => rfl
  | d :: cs, e :: bs, acc, h, hl => by
    have h0 := hl e (by simp)
    rw [dacc, dacc, dacc_addv h, dacc_addv (addv_B _ (dacc_B h))]
    rw [dacc_addv (dacc_B h), dacc_twice h (fun b hb => hl b (by simp [hb])), addv_twice h h0]
theorem addv_addv {c : Int} : ∀ {p z b : List Int}, isB p → isB z → addv p 1 (addv z c b) = addv (addv p 1 z) c b
  | [], _, _, _, _ => by simp [addv]
  | _ :: _, [], _, _, _ => by simp [addv]
  | _ :: _, _ :: _, [], _, _ => by simp [addv]
  | x :: p, y :: z, w :: b, hp, hz => by
    have := addv_addv (c := c) (b := b) (isB_cons hp).2 (isB_cons hz).2
    simp only [addv, List.zipWith_cons_cons] at this ⊢
    rw [this, mI_one (aI_rng (isB_cons hz).1 (mI_rng _ _)), mI_one (isB_cons hz).1, aI_assoc (isB_cons hp).1 (isB_cons hz).1 (mI_rng _ _)]
theorem addv_dacc {p : List Int} (hp : isB p) : ∀ {cs : List Int} {bs : List (List Int)} {z : List Int}, isB z → addv p 1 (dacc z cs bs) = dacc (addv p 1 z) cs bs
  | [], _, _, _ => rfl
  | _ :: _, [], _, _ => rfl
  | d :: cs, e :: bs, z, hz => by
    rw [dacc, dacc, addv_dacc hp (addv_B _ hz), addv_addv hp hz]
theorem addv_zero : ∀ {p : List Int}, isB p → addv p 1 (List.replicate p.length 0) = p
  | [], _ => rfl
  | x :: p, hp => by
    have := addv_zero (isB_cons hp).2
    simp only [addv, List.length_cons, List.replicate_succ, List.zipWith_cons_cons] at this ⊢
    rw [this, mI_one (by decide), aI_right (isB_cons hp).1]
theorem add_sum {p : List Int} (hp : isB p) {n : Nat} (hn : p.length = n) (cs : List Int) (bs : List (List Int)) : addv p 1 (dacc (List.replicate n 0) cs bs) = dacc p cs bs := by
  subst hn
  rw [addv_dacc hp (isB_rep _), addv_zero hp]
/-! rows, each by its own function -/
def upd (f : Nat → List Int → List Int) : List (List Int) → Nat → List (List Int)
  | [], _ => []
  | p :: ps, i => f i p :: upd f ps (i + 1)
theorem upd_len (f : Nat → List Int → List Int) : ∀ ps i, (upd f ps i).length = ps.length
  | [], _ => rfl
  | p :: ps, i => by simp [upd, upd_len f ps (i + 1)]
theorem upd_upd (f g : Nat → List Int → List Int) : ∀ ps i, upd f (upd g ps i) i = upd (fun i p => f i (g i p)) ps i
  | [], _ => rfl
  | p :: ps, i => by simp [upd, upd_upd f g ps (i + 1)]
theorem upd_congr {f g : Nat → List Int → List Int} : ∀ ps i, (∀ j, ∀ p ∈ ps, f j p = g j p) → upd f ps i = upd g ps i
  | [], _, _ => rfl
  | p :: ps, i, h => by
    rw [upd, upd, h i p (by simp), upd_congr ps (i + 1) (fun j q hq => h j q (by simp [hq]))]
theorem upd_id {f : Nat → List Int → List Int} : ∀ ps i, (∀ j, ∀ p ∈ ps, f j p = p) → upd f ps i = ps
  | [], _, _ => rfl
  | p :: ps, i, h => by
    rw [upd, h i p (by simp), upd_id ps (i + 1) (fun j q hq => h j q (by simp [hq]))]
theorem upd_all {f : Nat → List Int → List Int} {Q : List Int → Prop} : ∀ ps i, (∀ j, ∀ p ∈ ps, Q (f j p)) → ∀ q ∈ upd f ps i, Q q
  | [], _, _, q, hq => by cases hq
  | p :: ps, i, h, q, hq => by
    rw [upd, List.mem_cons] at hq
    rcases hq with rfl | hq
    · exact h i p (by simp)
    · exact upd_all ps (i + 1) (fun j r hr => h j r (by simp [hr])) q hq
end Go.Proofs.Ytmmbojeikppinaa.Pure
namespace Go.Proofs.Ytmmbojeikppinaa.Pure
open Go Go.RowKit Go.TwoGf Go.Proofs.Ytmmbojeikppinaa Go.Proofs.Ytmmbojeikppinaa.PD Go.Proofs.YtmmbojeikppinaaW.PrintWords Go.Proofs.YtmmbojeikppinaaW.PrintLast Go.Proofs.YtmmbojeikppinaaW.PrintMore
set_option linter.unusedVariables false
/-- cells that may be, and are alike -/
def Alk (n : Nat) (l : List (List Int)) : Prop := ∀ x ∈ l, 1 ≤ x.length ∧ x.length ≤ 65536 ∧ x.length = n
instance alkDec (n : Nat) (l : List (List Int)) : Decidable (Alk n l) := by unfold Alk; infer_instance
theorem alk_dots {n : Nat} {l : List (List Int)} (h : Alk n l) : alk l = true := by
  unfold alk
  rw [List.all_eq_true]
  intro x hx
  have hx' := h x hx
  have e : (rd_L1 l 0).length = n := by
    cases l with
    | nil => cases hx
    | cons y l => exact (h y (by simp)).2.2
  simp [e, hx'.2.2]
  omega
theorem rd_L1_n {n : Nat} {l : List (List Int)} (h : Alk n l) {i : Nat} (hi : i < l.length) : (rd_L1 l (i : Int)).length = n := by
  rw [rd_L1_nat hi]; exact (h _ (List.getElem_mem _)).2.2
/-- may the code be -/
def okK (k r : Int) : Prop := 1 ≤ k ∧ k ≤ 12 ∧ 0 ≤ r ∧ r ≤ 4
instance okKDec (k r : Int) : Decidable (okK k r) := by unfold okK; infer_instance
end Go.Proofs.Ytmmbojeikppinaa.Pure
