/- Rows of bytes: sums of multiples, in any order, twice, one by one. No condition. -/
import Derived.Test.YtmmbojeikppinaaDKer
namespace Go.Proofs.Ytmmbojeikppinaa.Pure
open Go Go.RowKit Go.TwoGf Go.Proofs.Ytmmbojeikppinaa Go.Proofs.Ytmmbojeikppinaa.PA Go.Proofs.YtmmbojeikppinaaW.PrintWords Go.Proofs.YtmmbojeikppinaaW.PrintLast Go.Proofs.YtmmbojeikppinaaW.PrintMore
set_option linter.unusedVariables false
def by8 (x : Int) : Prop := 0 ≤ x ∧ x < 256
theorem aI_right {x : Int} (hx : by8 x) : aI x 0 = x := by rw [aI_comm hx (by decide), aI_zero hx]
theorem aI_turn {x y z : Int} (hx : by8 x) (hy : by8 y) (hz : by8 z) : aI (aI x y) z = aI (aI x z) y := by
  rw [aI_assoc hx hy hz, aI_comm hy hz, ← aI_assoc hx hz hy]
theorem aI_back {x y : Int} (hx : by8 x) (hy : by8 y) : aI (aI x y) y = x := by
  rw [aI_assoc hx hy hy, aI_self hy, aI_right hx]
theorem addv_comm {c d : Int} : ∀ {a b e : List Int}, isB a → addv (addv a c b) d e = addv (addv a d e) c b
  | [], _, _, _ => by simp [addv]
  | _ :: _, [], [], _ => by simp [addv]
  | _ :: _, [], _ :: _, _ => by simp [addv]
  | _ :: _, _ :: _, [], _ => by simp [addv]
  | x :: a, y :: b, z :: e, ha => by
    have := addv_comm (c := c) (d := d) (b := b) (e := e) (isB_cons ha).2
    simp only [addv, List.zipWith_cons_cons] at this ⊢
    rw [this, aI_turn (isB_cons ha).1 (mI_rng _ _) (mI_rng _ _)]
theorem addv_twice {c : Int} : ∀ {a b : List Int}, isB a → a.length ≤ b.length → addv (addv a c b) c b = a
  | [], _, _, _ => by simp [addv]
  | _ :: _, [], _, h => by simp at h
  | x :: a, y :: b, ha, h => by
    have := addv_twice (c := c) (b := b) (isB_cons ha).2 (by simpa using h)
    simp only [addv, List.zipWith_cons_cons] at this ⊢
    rw [this, aI_back (isB_cons ha).1 (mI_rng _ _)]
theorem dacc_addv {c : Int} {b : List Int} : ∀ {cs : List Int} {bs : List (List Int)} {acc : List Int}, isB acc → dacc (addv acc c b) cs bs = addv (dacc acc cs bs) c b
  | [], _, _, _ => rfl
  | _ :: _, [], _, _ => rfl
  | d :: cs, e :: bs, acc, h => by
    rw [dacc, dacc, addv_comm h, dacc_addv (addv_B _ h)]
theorem dacc_twice : ∀ {cs : List Int} {bs : List (List Int)} {acc : List Int}, isB acc → (∀ b ∈ bs, acc.length ≤ b.length) → dacc (dacc acc cs bs) cs bs = acc
  | [], _, _, _, _ => rfl
  | _ :: _, [], _, _, _ => rfl
  | d :: cs, e :: bs, acc, h, hl => by
    have h0 := hl e (by simp)
    rw [dacc, dacc, dacc_addv h, dacc_addv (addv_B _ (dacc_B h))]
    rw [dacc_addv (dacc_B h), dacc_twice h (fun b hb => hl b (by simp [hb])), addv_twice h h0]
theorem addv_addv {c : Int} : ∀ {p z b : List Int}, isB p → isB z → addv p 1 (addv z c b) = addv (addv p 1 z) c b
  | [], _, _, _, _ => by simp [addv]
  | _ :: _, [], _, _, _ => by simp [addv]
  | _ :: _, _ :: _, [], _, _ => by simp [addv]
  | x :: p, y :: z, w :: b, hp, hz => by
    have := addv_addv (c := c) (b := b) (isB_cons hp).2 (isB_cons hz).2
    simp only [addv, List.zipWith_cons_cons] at this ⊢
    rw [this, mI_one (aI_rng (isB_cons hz).1 (mI_rng _ _)), mI_one (isB_cons hz).1, aI_assoc (isB_cons hp).1 (isB_cons hz).1 (mI_rng _ _)]
theorem addv_dacc {p : List Int} (hp : isB p) : ∀ {cs : List Int} {bs : List (List Int)} {z : List Int}, isB z → addv p 1 (dacc z cs bs) = dacc (addv p 1 z) cs bs
  | [], _, _, _ => rfl
  | _ :: _, [], _, _ => rfl
  | d :: cs, e :: bs, z, hz => by
    rw [dacc, dacc, addv_dacc hp (addv_B _ hz), addv_addv hp hz]
theorem addv_zero : ∀ {p : List Int}, isB p → addv p 1 (List.replicate p.length 0) = p
  | [], _ => rfl
  | x :: p, hp => by
    have := addv_zero (isB_cons hp).2
    simp only [addv, List.length_cons, List.replicate_succ, List.zipWith_cons_cons] at this ⊢
    rw [this, mI_one (by decide), aI_right (isB_cons hp).1]
theorem add_sum {p : List Int} (hp : isB p) {n : Nat} (hn : p.length = n) (cs : List Int) (bs : List (List Int)) : addv p 1 (dacc (List.replicate n 0) cs bs) = dacc p cs bs := by
  subst hn
  rw [addv_dacc hp (isB_rep _), addv_zero hp]
/-! rows, each by its own function -/
def upd (f : Nat → List Int → List Int) : List (List Int) → Nat → List (List Int)
  | [], _ => []
  | p :: ps, i => f i p :: upd f ps (i + 1)
theorem upd_len (f : Nat → List Int → List Int) : ∀ ps i, (upd f ps i).length = ps.length
  | [], _ => rfl
  | p :: ps, i => by simp [upd, upd_len f ps (i + 1)]
theorem upd_upd (f g : Nat → List Int → List Int) : ∀ ps i, upd f (upd g ps i) i = upd (fun i p => f i (g i p)) ps i
  | [], _ => rfl
  | p :: ps, i => by simp [upd, upd_upd f g ps (i + 1)]
theorem upd_congr {f g : Nat → List Int → List Int} : ∀ ps i, (∀ j, ∀ p ∈ ps, f j p = g j p) → upd f ps i = upd g ps i
  | [], _, _ => rfl
  | p :: ps, i, h => by
    rw [upd, upd, h i p (by simp), upd_congr ps (i + 1) (fun j q hq => h j q (by simp [hq]))]
theorem upd_id {f : Nat → List Int → List Int} : ∀ ps i, (∀ j, ∀ p ∈ ps, f j p = p) → upd f ps i = ps
  | [], _, _ => rfl
  | p :: ps, i, h => by
    rw [upd, h i p (by simp), upd_id ps (i + 1) (fun j q hq => h j q (by simp [hq]))]
theorem upd_all {f : Nat → List Int → List Int} {Q : List Int → Prop} : ∀ ps i, (∀ j, ∀ p ∈ ps, Q (f j p)) → ∀ q ∈ upd f ps i, Q q
  | [], _, _, q, hq => by cases hq
  | p :: ps, i, h, q, hq => by
    rw [upd, List.mem_cons] at hq
    rcases hq with rfl | hq
    · exact h i p (by simp)
    · exact upd_all ps (i + 1) (fun j r hr => h j r (by simp [hr])) q hq
end Go.Proofs.Ytmmbojeikppinaa.Pure
