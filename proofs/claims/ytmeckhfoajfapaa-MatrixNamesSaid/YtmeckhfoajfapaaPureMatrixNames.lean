/- MatrixNames, in plain Lean: matrices are taken up to the greatest size, and not beyond. No condition. -/
import Derived.Test.YtmeckhfoajfapaaPAx19
import Derived.Test.YtmeckhfoajfapaaPAx18
import Derived.Test.YtmeckhfoajfapaaMxFun
namespace Go.Proofs.Ytmeckhfoajfapaa.Pure
open Go Go.RowKit Go.TwoGf Go.TwoLin Go.Proofs.Ytmeckhfoajfapaa Go.Proofs.Ytmeckhfoajfapaa.PA Go.Proofs.YtmeckhfoajfapaaW.PrintWords Go.Proofs.YtmeckhfoajfapaaW.PrintLast
set_option linter.unusedVariables false
theorem sized_l0 {n m : Nat} (hn : n ≤ 1000) (hm : m ≤ 1000) : ∀ (d k i : Nat), i + d = n → d < k → twoslotlaw03_sized.l0 k (n : Int) (m : Int) (List.replicate i (List.replicate m 0)) (i : Int) = some (List.replicate n (List.replicate m 0)) := by
  intro d
  induction d with
  | zero =>
    intro k i hi hk
    obtain ⟨k, rfl⟩ : ∃ q, k = q + 1 := ⟨k - 1, by omega⟩
    obtain rfl : i = n := by omega
    unfold twoslotlaw03_sized.l0
    rw [if_neg (by omega)]
  | succ d ih =>
    intro k i hi hk
    obtain ⟨k, rfl⟩ : ∃ q, k = q + 1 := ⟨k - 1, by omega⟩
    unfold twoslotlaw03_sized.l0
    rw [if_pos (by omega), if_pos (by omega), if_pos (by omega), if_pos (by rw [List.length_replicate]; omega), w64 (by omega), Int.toNat_natCast, ← List.replicate_succ']
    exact ih k (i + 1) (by omega) (by omega)
theorem sized_f {k n m : Nat} (hn : n ≤ 1000) (hm : m ≤ 1000) (hk : 1001 < k) : twoslotlaw03_sized.f k (n : Int) (m : Int) = some (List.replicate n (List.replicate m 0)) :=
  sized_l0 hn hm n k 0 (by omega) (by omega)
theorem ckv_rep (n m : Nat) : ckv (List.replicate n (List.replicate m 0)) = if 1 ≤ n ∧ n ≤ 32 ∧ 1 ≤ m ∧ m ≤ 32 then 0 else 30 := by
  unfold ckv
  by_cases h : 1 ≤ n ∧ n ≤ 32 ∧ 1 ≤ m ∧ m ≤ 32
  · rw [if_pos h, if_pos]
    refine (good_of (n := n) (m := m) ⟨by simp, fun r hr => by rw [(List.mem_replicate.1 hr).2]; simp⟩ h.1 h.2.1 h.2.2.1 h.2.2.2).1
  · rw [if_neg h, if_neg]
    intro g
    have h1 := g.1
    have h2 := g.2.1
    have h3 := g.2.2.1
    have h4 := g.2.2.2.1
    rw [List.length_replicate] at h1 h2
    have e : rw_ (List.replicate n (List.replicate m (0 : Int))) 0 = List.replicate m 0 := by rw [rw_lt (by rw [List.length_replicate]; omega)]; simp
    rw [e, List.length_replicate] at h3 h4
    exact h ⟨h1, h2, h3, h4⟩
theorem inverse_one {k : Nat} (hk : 200 ≤ k) : matrix_Inverse.f k (mkF 32 32 dl) = some (mkF 32 32 dl, 0) := by
  obtain ⟨g, hl, hc⟩ := good_of (rect_mkF 32 32 dl) (by decide) (by decide) (by decide) (by decide)
  have hI : ∀ i j, i < 32 → j < 32 → mm 32 dl (cell (mkF 32 32 dl)) i j = dl i j := fun i j hi hj => by rw [dl_mm _ hi, cell_mkF hi hj]
  rcases inverse_f (k := k) hk (isM_mkF 32 32 dl) g (by rw [hl, hc]) with ⟨r, h1, h2, h3⟩ | ⟨V, h1, h2, h3, h4, h5, h6⟩
  · rw [hl] at h1 h2
    have := Rk_unique h2 (Rk_inv hI)
    omega
  · rw [hl] at h2 h5
    rw [h1, ext_cell h2 (rect_mkF 32 32 dl) h3 (isM_mkF 32 32 dl) (fun i j hi hj => by
      rw [cell_mkF hi hj, ← h5 i j hi hj, ← mm_dl (cell V) i hj]
      exact mm_congr (fun _ _ => rfl) fun q hq => (cell_mkF hq hj).symm)]
theorem names_law {k : Nat} (hk : 1100 ≤ k) : twoslotlaw03_MatrixNames.f k = some true := by
  obtain ⟨g, hl, hc⟩ := good_of (rect_mkF 32 32 dl) (by decide) (by decide) (by decide) (by decide)
  have c1 := one_f (n := 32) (by decide) (by decide)
  have c4 := cauchy_f (k := 12) (r := 4) (by decide) (by decide) (by decide) (by decide)
  have p1 : matrix_Pick.f k (mkF 32 32 dl) (List.replicate 33 0) = some ([], 2) := by
    rw [pick_bad (by omega) (fun z => by have := z.2.1; rw [List.length_replicate] at this; omega), if_pos g]
  have p2 : ∃ P : List (List Int), P.length = 32 ∧ matrix_Pick.f k (mkF 32 32 dl) (List.replicate 32 0) = some (P, 0) :=
    ⟨_, by rw [(rect_mkF _ _ _).1, List.length_replicate], pick_f (by omega) (isM_mkF 32 32 dl) g (by rw [List.length_replicate]; decide) (by rw [List.length_replicate]; decide) (fun x hx => by rw [(List.mem_replicate.1 hx).2, hl]; decide)⟩
  obtain ⟨P, hP, p2⟩ := p2
  have p3 : matrix_Pick.f k (mkF 32 32 dl) [] = some ([], 2) := by
    rw [pick_bad (by omega) (fun z => by have := z.1; simp at this), if_pos g]
  have p4 : matrix_Pick.f k (mkF 32 32 dl) [-1] = some ([], 2) := by
    rw [pick_bad (by omega) (fun z => by have := z.2.2 (-1) (by simp); omega), if_pos g]
  have s1 := sized_f (k := k) (n := 32) (m := 32) (by decide) (by decide) (by omega)
  have s2 := sized_f (k := k) (n := 33) (m := 1) (by decide) (by decide) (by omega)
  have s3 := sized_f (k := k) (n := 1) (m := 33) (by decide) (by decide) (by omega)
  have s4 := sized_f (k := k) (n := 1) (m := 0) (by decide) (by decide) (by omega)
  unfold twoslotlaw03_MatrixNames.f
  rw [alive_f (by omega), Option.bind_some, if_pos rfl, show matrix_One.f 32 = _ from c1, Option.bind_some, one_bad (a := 33) (by decide), Option.bind_some, one_bad (a := 0) (by decide), Option.bind_some, show matrix_Cauchy.f 12 4 = _ from c4, Option.bind_some,
    cauchy_bad (a := 12) (b := 5) (by decide), Option.bind_some, cauchy_bad (a := 1) (b := 0) (by decide), Option.bind_some, if_pos (by decide)]
  dsimp only
  rw [p1, Option.bind_some, if_pos (by decide), p2, Option.bind_some, p3, Option.bind_some, p4, Option.bind_some, show twoslotlaw03_sized.f k 32 32 = _ from s1, Option.bind_some, check_f (by omega), Option.bind_some, ckv_rep, if_pos (by decide),
    show twoslotlaw03_sized.f k 33 1 = _ from s2, Option.bind_some, check_f (by omega), Option.bind_some, ckv_rep, if_pos (by decide),
    show twoslotlaw03_sized.f k 1 33 = _ from s3, Option.bind_some, check_f (by omega), Option.bind_some, ckv_rep, if_pos (by decide),
    show twoslotlaw03_sized.f k 1 0 = _ from s4, Option.bind_some, check_f (by omega), Option.bind_some, ckv_rep, if_neg (by decide)]
  obtain ⟨k, rfl⟩ : ∃ q, k = q + 1 := ⟨k - 1, by omega⟩
  rw [twoslotlaw03_MatrixNames.j0]
  rw [if_neg (by decide), inverse_one (by omega), Option.bind_some]
  dsimp only
  rw [if_pos rfl, if_pos rfl, if_pos rfl, if_pos rfl, if_pos rfl, if_pos rfl, if_pos rfl, if_pos rfl, if_pos rfl, if_pos rfl, if_pos rfl, same_f (by rw [(rect_mkF _ _ _).1]; decide) (by rw [(rect_mkF _ _ _).1]; omega) rfl, Option.bind_some, if_pos rfl]
  have e4 : (mkF 4 12 (cau 12)).length = 4 := (rect_mkF _ _ _).1
  have e12 : (rw_ (mkF 4 12 (cau 12)) 3).length = 12 := rect_row (rect_mkF _ _ _) (by decide)
  rw [e4, if_pos (by decide), if_pos (by decide), if_pos (show ((rd_L1 (mkF 4 12 (cau 12)) 3).length : Int) = 12 from by rw [show rd_L1 (mkF 4 12 (cau 12)) 3 = rw_ (mkF 4 12 (cau 12)) 3 from rfl, e12]; rfl), hP]
  rfl
theorem MatrixNames : twoslotlaw03_MatrixNames.Pure := by
  obtain ⟨k, hk⟩ : ∃ k, 1100 ≤ k := ⟨1100, Nat.le_refl _⟩
  exact ⟨k, names_law hk⟩
end Go.Proofs.Ytmeckhfoajfapaa.Pure
