-- written by the session's own program (wip/prt.py) over the kit's print: not print.sh's own text
import Derived.Test.YtkmcjmhnoccedaaPCx0
import Derived.Test.YtkmcjmhnoccedaaPCx4
import Derived.Test.YtkmcjmhnoccedaaPCx5
import Derived.Test.YtkmcjmhnoccedaaPCx6
import Derived.Test.YtkmcjmhnoccedaaPCx7
import Derived.Test.YtkmcjmhnoccedaaPCx8
namespace Go.Proofs.Ytkmcjmhnoccedaa.PC
open Go.RowKit Go.Proofs.YtkmcjmhnoccedaaW.PrintWords Go.Proofs.YtkmcjmhnoccedaaW.PrintLast Go.Proofs.YtkmcjmhnoccedaaW.PrintMore
attribute [local go_sem] max2_int min2_int max_two min_two max_three min_three max_four min_four   -- for this text's walks alone
set_option linter.unusedVariables false
set_option linter.unusedSimpArgs false

/-! ### twoslotlaw07_VectorBumps: function 7 -/
mutual
def twoslotlaw07_VectorBumps.j0 : Nat → List Int → List Int → List Int → Bool → Int → Int → Int → Int → Option (Bool)
  | 0, _, _, _, _, _, _, _, _ => none
  | k + 1, x1, x2, x3, x43, x216000, x216001, x216002, x216003 => if x43 = true then (some true) else ((vector_Last.f k x216000 x216001 x216002 x216003 x1).bind fun bt217 => (if bt217.2 = 0 then (twoslotlaw07_VectorBumps.j1 k x1 x2 x3 bt217.1 (bt217.1 == 1073741824) x216000 x216001 x216002 x216003) else (twoslotlaw07_VectorBumps.j1 k x1 x2 x3 bt217.1 true x216000 x216001 x216002 x216003)))
def twoslotlaw07_VectorBumps.j1 : Nat → List Int → List Int → List Int → Int → Bool → Int → Int → Int → Int → Option (Bool)
  | 0, _, _, _, _, _, _, _, _, _ => none
  | k + 1, x1, x2, x3, x10, x55, x216000, x216001, x216002, x216003 => if x55 = true then (some true) else ((vector_Bump.f k x216000 x216001 x216002 x216003 x1 x3 (wrap64 (x10 + 1))).bind fun bt219 => (if bt219.2 = 0 then ((vector_Unlike.f k x216000 x216001 x216002 x216003 x1 bt219.1).bind fun bt223 => ((vector_Last.f k x216000 x216001 x216002 x216003 bt219.1).bind fun bt227 => ((vector_Below.f k x216000 x216001 x216002 x216003 x1 bt219.1).bind fun bt229 => (if bt223.2 = 0 then (if bt227.2 = 0 then (if bt229.2 = 0 then (if bt229.1 = true then (if (x3.length : Int) > 0 then (if bt227.1 = (wrap64 (x10 + 1)) then (if (x3.length : Int) = 0 then (twoslotlaw07_VectorBumps.j2 k x1 x2 x3 bt223.1 (bt227.1 != x10) x216000 x216001 x216002 x216003) else (twoslotlaw07_VectorBumps.j2 k x1 x2 x3 bt223.1 false x216000 x216001 x216002 x216003)) else (none)) else (if (x3.length : Int) = 0 then (twoslotlaw07_VectorBumps.j2 k x1 x2 x3 bt223.1 (bt227.1 != x10) x216000 x216001 x216002 x216003) else (twoslotlaw07_VectorBumps.j2 k x1 x2 x3 bt223.1 false x216000 x216001 x216002 x216003))) else (none)) else (none)) else (none)) else (none))))) else (some ((bt219.1.length : Int) == 0))))
def twoslotlaw07_VectorBumps.j2 : Nat → List Int → List Int → List Int → List Int → Bool → Int → Int → Int → Int → Option (Bool)
  | 0, _, _, _, _, _, _, _, _, _ => none
  | k + 1, x1, x2, x3, x13, x124, x216000, x216001, x216002, x216003 => if x124 = true then (none) else (if 0 ≤ (x1.length : Int) then (if ((x1.length : Int) : Int).toNat ≤ 281474976710656 then (twoslotlaw07_VectorBumps.l0 k x1 x2 x3 x13 (List.replicate ((x1.length : Int) : Int).toNat false) 0 x216000 x216001 x216002 x216003) else (none)) else (none))
def twoslotlaw07_VectorBumps.l0 : Nat → List Int → List Int → List Int → List Int → List Bool → Int → Int → Int → Int → Int → Option (Bool)
  | 0, _, _, _, _, _, _, _, _, _, _ => none
  | k + 1, x1, x2, x3, x13, x19, x20, x216000, x216001, x216002, x216003 => if x20 < (x3.length : Int) then (if 0 ≤ x20 then (if 0 ≤ (rd x3 x20) then (if (rd x3 x20) < (x19.length : Int) then (twoslotlaw07_VectorBumps.l0 k x1 x2 x3 x13 (x19.set ((rd x3 x20) : Int).toNat true) (wrap64 (x20 + 1)) x216000 x216001 x216002 x216003) else (none)) else (none)) else (none)) else (twoslotlaw07_VectorBumps.l1 k x1 x2 x13 x19 0 0 x216000 x216001 x216002 x216003)
def twoslotlaw07_VectorBumps.l1 : Nat → List Int → List Int → List Int → List Bool → Int → Int → Int → Int → Int → Int → Option (Bool)
  | 0, _, _, _, _, _, _, _, _, _, _ => none
  | k + 1, x1, x2, x13, x19, x21, x22, x216000, x216001, x216002, x216003 => if x22 < (x1.length : Int) then (if 0 ≤ x22 then (if x22 < (x19.length : Int) then (if rdOf false x19 x22 = true then (if x21 ≥ (x13.length : Int) then (none) else (if 0 ≤ x21 then (if x21 < (x13.length : Int) then (if (rd x13 x21) = x22 then (twoslotlaw07_VectorBumps.l1 k x1 x2 x13 x19 (wrap64 (x21 + 1)) (wrap64 (x22 + 1)) x216000 x216001 x216002 x216003) else (none)) else (none)) else (none))) else (twoslotlaw07_VectorBumps.l1 k x1 x2 x13 x19 x21 (wrap64 (x22 + 1)) x216000 x216001 x216002 x216003)) else (none)) else (none)) else (if x21 = (x13.length : Int) then ((vector_Unlike.f k x216000 x216001 x216002 x216003 x1 x2).bind fun bt238 => (if bt238.2 = 0 then (twoslotlaw07_VectorBumps.l2 k x2 bt238.1 x1 0 x216000 x216001 x216002 x216003) else (some true))) else (none))
def twoslotlaw07_VectorBumps.l2 : Nat → List Int → List Int → List Int → Int → Int → Int → Int → Int → Option (Bool)
  | 0, _, _, _, _, _, _, _, _ => none
  | k + 1, x2, x23, x24, x25, x216000, x216001, x216002, x216003 => if x25 < (x23.length : Int) then (if 0 ≤ x25 then (if 0 ≤ (rd x23 x25) then (if (rd x23 x25) < (x2.length : Int) then ((vector_Bump.f k x216000 x216001 x216002 x216003 x24 (([rd x23 x25] : List Int)) (rd x2 (rd x23 x25))).bind fun bt248 => (if bt248.2 = 0 then (twoslotlaw07_VectorBumps.l2 k x2 x23 bt248.1 (wrap64 (x25 + 1)) x216000 x216001 x216002 x216003) else (none))) else (none)) else (none)) else (none)) else ((twoslotref07_Same.f k x24 x2).bind fun t252 => (some t252))
end
def twoslotlaw07_VectorBumps.f (k : Nat) (a0_0 : Int) (a0_1 : Int) (a0_2 : Int) (a0_3 : Int) (l1 : List Int) (l2 : List Int) (l3 : List Int) : Option (Bool) := (twoslotlaw07_alive.f k).bind fun t216 => (if t216 = true then (if (l1.length : Int) > 200 then (twoslotlaw07_VectorBumps.j0 k l1 l2 l3 true a0_0 a0_1 a0_2 a0_3) else (if (l2.length : Int) > 200 then (twoslotlaw07_VectorBumps.j0 k l1 l2 l3 true a0_0 a0_1 a0_2 a0_3) else (twoslotlaw07_VectorBumps.j0 k l1 l2 l3 (decide ((l3.length : Int) > 200)) a0_0 a0_1 a0_2 a0_3))) else (none))
theorem twoslotlaw07_VectorBumps.mono_l : ∀ k, (∀ y0 y1 y2 y3 y4 y5 y6 y7, LeO (twoslotlaw07_VectorBumps.j0 k y0 y1 y2 y3 y4 y5 y6 y7) (twoslotlaw07_VectorBumps.j0 (k + 1) y0 y1 y2 y3 y4 y5 y6 y7)) ∧ (∀ y0 y1 y2 y3 y4 y5 y6 y7 y8, LeO (twoslotlaw07_VectorBumps.j1 k y0 y1 y2 y3 y4 y5 y6 y7 y8) (twoslotlaw07_VectorBumps.j1 (k + 1) y0 y1 y2 y3 y4 y5 y6 y7 y8)) ∧ (∀ y0 y1 y2 y3 y4 y5 y6 y7 y8, LeO (twoslotlaw07_VectorBumps.j2 k y0 y1 y2 y3 y4 y5 y6 y7 y8) (twoslotlaw07_VectorBumps.j2 (k + 1) y0 y1 y2 y3 y4 y5 y6 y7 y8)) ∧ (∀ y0 y1 y2 y3 y4 y5 y6 y7 y8 y9, LeO (twoslotlaw07_VectorBumps.l0 k y0 y1 y2 y3 y4 y5 y6 y7 y8 y9) (twoslotlaw07_VectorBumps.l0 (k + 1) y0 y1 y2 y3 y4 y5 y6 y7 y8 y9)) ∧ (∀ y0 y1 y2 y3 y4 y5 y6 y7 y8 y9, LeO (twoslotlaw07_VectorBumps.l1 k y0 y1 y2 y3 y4 y5 y6 y7 y8 y9) (twoslotlaw07_VectorBumps.l1 (k + 1) y0 y1 y2 y3 y4 y5 y6 y7 y8 y9)) ∧ (∀ y0 y1 y2 y3 y4 y5 y6 y7, LeO (twoslotlaw07_VectorBumps.l2 k y0 y1 y2 y3 y4 y5 y6 y7) (twoslotlaw07_VectorBumps.l2 (k + 1) y0 y1 y2 y3 y4 y5 y6 y7))
  | 0 => ⟨fun _ _ _ _ _ _ _ _ r h => by simp [twoslotlaw07_VectorBumps.j0] at h, fun _ _ _ _ _ _ _ _ _ r h => by simp [twoslotlaw07_VectorBumps.j1] at h, fun _ _ _ _ _ _ _ _ _ r h => by simp [twoslotlaw07_VectorBumps.j2] at h, fun _ _ _ _ _ _ _ _ _ _ r h => by simp [twoslotlaw07_VectorBumps.l0] at h, fun _ _ _ _ _ _ _ _ _ _ r h => by simp [twoslotlaw07_VectorBumps.l1] at h, fun _ _ _ _ _ _ _ _ r h => by simp [twoslotlaw07_VectorBumps.l2] at h⟩
  | k + 1 => by
    obtain ⟨ih0, ih1, ih2, ih3, ih4, ih5⟩ := twoslotlaw07_VectorBumps.mono_l k
    refine ⟨?_, ?_, ?_, ?_, ?_, ?_⟩
    · intro y0 y1 y2 y3 y4 y5 y6 y7
      unfold twoslotlaw07_VectorBumps.j0
      repeat' first
      | (with_reducible exact ih0 _ _ _ _ _ _ _ _)
      | (with_reducible exact ih1 _ _ _ _ _ _ _ _ _)
      | (with_reducible exact ih2 _ _ _ _ _ _ _ _ _)
      | (with_reducible exact ih3 _ _ _ _ _ _ _ _ _ _)
      | (with_reducible exact ih4 _ _ _ _ _ _ _ _ _ _)
      | (with_reducible exact ih5 _ _ _ _ _ _ _ _)
      | (with_reducible exact twoslotlaw07_alive.mono _)
      | (with_reducible exact twoslotref07_Same.mono _ _ _)
      | (with_reducible exact vector_Below.mono _ _ _ _ _ _ _)
      | (with_reducible exact vector_Bump.mono _ _ _ _ _ _ _ _)
      | (with_reducible exact vector_Last.mono _ _ _ _ _ _)
      | (with_reducible exact vector_Unlike.mono _ _ _ _ _ _ _)
      | (with_reducible exact LeO.refl _)
      | (with_reducible exact LeO.none _)
      | (with_reducible refine LeO.ite ?_ ?_)
      | (with_reducible refine LeO.bind ?_ (fun _ => ?_))
      | exact ih0 _ _ _ _ _ _ _ _
      | exact ih1 _ _ _ _ _ _ _ _ _
      | exact ih2 _ _ _ _ _ _ _ _ _
      | exact ih3 _ _ _ _ _ _ _ _ _ _
      | exact ih4 _ _ _ _ _ _ _ _ _ _
      | exact ih5 _ _ _ _ _ _ _ _
      | exact twoslotlaw07_alive.mono _
      | exact twoslotref07_Same.mono _ _ _
      | exact vector_Below.mono _ _ _ _ _ _ _
      | exact vector_Bump.mono _ _ _ _ _ _ _ _
      | exact vector_Last.mono _ _ _ _ _ _
      | exact vector_Unlike.mono _ _ _ _ _ _ _
      | exact LeO.none _
      | refine LeO.ite ?_ ?_
      | refine LeO.bind ?_ (fun _ => ?_)
    · intro y0 y1 y2 y3 y4 y5 y6 y7 y8
      unfold twoslotlaw07_VectorBumps.j1
      repeat' first
      | (with_reducible exact ih0 _ _ _ _ _ _ _ _)
      | (with_reducible exact ih1 _ _ _ _ _ _ _ _ _)
      | (with_reducible exact ih2 _ _ _ _ _ _ _ _ _)
      | (with_reducible exact ih3 _ _ _ _ _ _ _ _ _ _)
      | (with_reducible exact ih4 _ _ _ _ _ _ _ _ _ _)
      | (with_reducible exact ih5 _ _ _ _ _ _ _ _)
      | (with_reducible exact twoslotlaw07_alive.mono _)
      | (with_reducible exact twoslotref07_Same.mono _ _ _)
      | (with_reducible exact vector_Below.mono _ _ _ _ _ _ _)
      | (with_reducible exact vector_Bump.mono _ _ _ _ _ _ _ _)
      | (with_reducible exact vector_Last.mono _ _ _ _ _ _)
      | (with_reducible exact vector_Unlike.mono _ _ _ _ _ _ _)
      | (with_reducible exact LeO.refl _)
      | (with_reducible exact LeO.none _)
      | (with_reducible refine LeO.ite ?_ ?_)
      | (with_reducible refine LeO.bind ?_ (fun _ => ?_))
      | exact ih0 _ _ _ _ _ _ _ _
      | exact ih1 _ _ _ _ _ _ _ _ _
      | exact ih2 _ _ _ _ _ _ _ _ _
      | exact ih3 _ _ _ _ _ _ _ _ _ _
      | exact ih4 _ _ _ _ _ _ _ _ _ _
      | exact ih5 _ _ _ _ _ _ _ _
      | exact twoslotlaw07_alive.mono _
      | exact twoslotref07_Same.mono _ _ _
      | exact vector_Below.mono _ _ _ _ _ _ _
      | exact vector_Bump.mono _ _ _ _ _ _ _ _
      | exact vector_Last.mono _ _ _ _ _ _
      | exact vector_Unlike.mono _ _ _ _ _ _ _
      | exact LeO.none _
      | refine LeO.ite ?_ ?_
      | refine LeO.bind ?_ (fun _ => ?_)
    · intro y0 y1 y2 y3 y4 y5 y6 y7 y8
      unfold twoslotlaw07_VectorBumps.j2
      repeat' first
      | (with_reducible exact ih0 _ _ _ _ _ _ _ _)
      | (with_reducible exact ih1 _ _ _ _ _ _ _ _ _)
      | (with_reducible exact ih2 _ _ _ _ _ _ _ _ _)
      | (with_reducible exact ih3 _ _ _ _ _ _ _ _ _ _)
      | (with_reducible exact ih4 _ _ _ _ _ _ _ _ _ _)
      | (with_reducible exact ih5 _ _ _ _ _ _ _ _)
      | (with_reducible exact twoslotlaw07_alive.mono _)
      | (with_reducible exact twoslotref07_Same.mono _ _ _)
      | (with_reducible exact vector_Below.mono _ _ _ _ _ _ _)
      | (with_reducible exact vector_Bump.mono _ _ _ _ _ _ _ _)
      | (with_reducible exact vector_Last.mono _ _ _ _ _ _)
      | (with_reducible exact vector_Unlike.mono _ _ _ _ _ _ _)
      | (with_reducible exact LeO.refl _)
      | (with_reducible exact LeO.none _)
      | (with_reducible refine LeO.ite ?_ ?_)
      | (with_reducible refine LeO.bind ?_ (fun _ => ?_))
      | exact ih0 _ _ _ _ _ _ _ _
      | exact ih1 _ _ _ _ _ _ _ _ _
      | exact ih2 _ _ _ _ _ _ _ _ _
      | exact ih3 _ _ _ _ _ _ _ _ _ _
      | exact ih4 _ _ _ _ _ _ _ _ _ _
      | exact ih5 _ _ _ _ _ _ _ _
      | exact twoslotlaw07_alive.mono _
      | exact twoslotref07_Same.mono _ _ _
      | exact vector_Below.mono _ _ _ _ _ _ _
      | exact vector_Bump.mono _ _ _ _ _ _ _ _
      | exact vector_Last.mono _ _ _ _ _ _
      | exact vector_Unlike.mono _ _ _ _ _ _ _
      | exact LeO.none _
      | refine LeO.ite ?_ ?_
      | refine LeO.bind ?_ (fun _ => ?_)
    · intro y0 y1 y2 y3 y4 y5 y6 y7 y8 y9
      unfold twoslotlaw07_VectorBumps.l0
      repeat' first
      | (with_reducible exact ih0 _ _ _ _ _ _ _ _)
      | (with_reducible exact ih1 _ _ _ _ _ _ _ _ _)
      | (with_reducible exact ih2 _ _ _ _ _ _ _ _ _)
      | (with_reducible exact ih3 _ _ _ _ _ _ _ _ _ _)
      | (with_reducible exact ih4 _ _ _ _ _ _ _ _ _ _)
      | (with_reducible exact ih5 _ _ _ _ _ _ _ _)
      | (with_reducible exact twoslotlaw07_alive.mono _)
      | (with_reducible exact twoslotref07_Same.mono _ _ _)
      | (with_reducible exact vector_Below.mono _ _ _ _ _ _ _)
      | (with_reducible exact vector_Bump.mono _ _ _ _ _ _ _ _)
      | (with_reducible exact vector_Last.mono _ _ _ _ _ _)
      | (with_reducible exact vector_Unlike.mono _ _ _ _ _ _ _)
      | (with_reducible exact LeO.refl _)
      | (with_reducible exact LeO.none _)
      | (with_reducible refine LeO.ite ?_ ?_)
      | (with_reducible refine LeO.bind ?_ (fun _ => ?_))
      | exact ih0 _ _ _ _ _ _ _ _
      | exact ih1 _ _ _ _ _ _ _ _ _
      | exact ih2 _ _ _ _ _ _ _ _ _
      | exact ih3 _ _ _ _ _ _ _ _ _ _
      | exact ih4 _ _ _ _ _ _ _ _ _ _
      | exact ih5 _ _ _ _ _ _ _ _
      | exact twoslotlaw07_alive.mono _
      | exact twoslotref07_Same.mono _ _ _
      | exact vector_Below.mono _ _ _ _ _ _ _
      | exact vector_Bump.mono _ _ _ _ _ _ _ _
      | exact vector_Last.mono _ _ _ _ _ _
      | exact vector_Unlike.mono _ _ _ _ _ _ _
      | exact LeO.none _
      | refine LeO.ite ?_ ?_
      | refine LeO.bind ?_ (fun _ => ?_)
    · intro y0 y1 y2 y3 y4 y5 y6 y7 y8 y9
      unfold twoslotlaw07_VectorBumps.l1
      repeat' first
      | (with_reducible exact ih0 _ _ _ _ _ _ _ _)
      | (with_reducible exact ih1 _ _ _ _ _ _ _ _ _)
      | (with_reducible exact ih2 _ _ _ _ _ _ _ _ _)
      | (with_reducible exact ih3 _ _ _ _ _ _ _ _ _ _)
      | (with_reducible exact ih4 _ _ _ _ _ _ _ _ _ _)
      | (with_reducible exact ih5 _ _ _ _ _ _ _ _)
      | (with_reducible exact twoslotlaw07_alive.mono _)
      | (with_reducible exact twoslotref07_Same.mono _ _ _)
      | (with_reducible exact vector_Below.mono _ _ _ _ _ _ _)
      | (with_reducible exact vector_Bump.mono _ _ _ _ _ _ _ _)
      | (with_reducible exact vector_Last.mono _ _ _ _ _ _)
      | (with_reducible exact vector_Unlike.mono _ _ _ _ _ _ _)
      | (with_reducible exact LeO.refl _)
      | (with_reducible exact LeO.none _)
      | (with_reducible refine LeO.ite ?_ ?_)
      | (with_reducible refine LeO.bind ?_ (fun _ => ?_))
      | exact ih0 _ _ _ _ _ _ _ _
      | exact ih1 _ _ _ _ _ _ _ _ _
      | exact ih2 _ _ _ _ _ _ _ _ _
      | exact ih3 _ _ _ _ _ _ _ _ _ _
      | exact ih4 _ _ _ _ _ _ _ _ _ _
      | exact ih5 _ _ _ _ _ _ _ _
      | exact twoslotlaw07_alive.mono _
      | exact twoslotref07_Same.mono _ _ _
      | exact vector_Below.mono _ _ _ _ _ _ _
      | exact vector_Bump.mono _ _ _ _ _ _ _ _
      | exact vector_Last.mono _ _ _ _ _ _
      | exact vector_Unlike.mono _ _ _ _ _ _ _
      | exact LeO.none _
      | refine LeO.ite ?_ ?_
      | refine LeO.bind ?_ (fun _ => ?_)
    · intro y0 y1 y2 y3 y4 y5 y6 y7
      unfold twoslotlaw07_VectorBumps.l2
      repeat' first
      | (with_reducible exact ih0 _ _ _ _ _ _ _ _)
      | (with_reducible exact ih1 _ _ _ _ _ _ _ _ _)
      | (with_reducible exact ih2 _ _ _ _ _ _ _ _ _)
      | (with_reducible exact ih3 _ _ _ _ _ _ _ _ _ _)
      | (with_reducible exact ih4 _ _ _ _ _ _ _ _ _ _)
      | (with_reducible exact ih5 _ _ _ _ _ _ _ _)
      | (with_reducible exact twoslotlaw07_alive.mono _)
      | (with_reducible exact twoslotref07_Same.mono _ _ _)
      | (with_reducible exact vector_Below.mono _ _ _ _ _ _ _)
      | (with_reducible exact vector_Bump.mono _ _ _ _ _ _ _ _)
      | (with_reducible exact vector_Last.mono _ _ _ _ _ _)
      | (with_reducible exact vector_Unlike.mono _ _ _ _ _ _ _)
      | (with_reducible exact LeO.refl _)
      | (with_reducible exact LeO.none _)
      | (with_reducible refine LeO.ite ?_ ?_)
      | (with_reducible refine LeO.bind ?_ (fun _ => ?_))
      | exact ih0 _ _ _ _ _ _ _ _
      | exact ih1 _ _ _ _ _ _ _ _ _
      | exact ih2 _ _ _ _ _ _ _ _ _
      | exact ih3 _ _ _ _ _ _ _ _ _ _
      | exact ih4 _ _ _ _ _ _ _ _ _ _
      | exact ih5 _ _ _ _ _ _ _ _
      | exact twoslotlaw07_alive.mono _
      | exact twoslotref07_Same.mono _ _ _
      | exact vector_Below.mono _ _ _ _ _ _ _
      | exact vector_Bump.mono _ _ _ _ _ _ _ _
      | exact vector_Last.mono _ _ _ _ _ _
      | exact vector_Unlike.mono _ _ _ _ _ _ _
      | exact LeO.none _
      | refine LeO.ite ?_ ?_
      | refine LeO.bind ?_ (fun _ => ?_)
theorem twoslotlaw07_VectorBumps.mono : ∀ a0 a1 a2 a3 a4 a5 a6 k, LeO (twoslotlaw07_VectorBumps.f k a0 a1 a2 a3 a4 a5 a6) (twoslotlaw07_VectorBumps.f (k + 1) a0 a1 a2 a3 a4 a5 a6) := by
  intro a0 a1 a2 a3 a4 a5 a6 k
  obtain ⟨ih0, ih1, ih2, ih3, ih4, ih5⟩ := twoslotlaw07_VectorBumps.mono_l k
  unfold twoslotlaw07_VectorBumps.f
  repeat' first
      | (with_reducible exact ih0 _ _ _ _ _ _ _ _)
      | (with_reducible exact ih1 _ _ _ _ _ _ _ _ _)
      | (with_reducible exact ih2 _ _ _ _ _ _ _ _ _)
      | (with_reducible exact ih3 _ _ _ _ _ _ _ _ _ _)
      | (with_reducible exact ih4 _ _ _ _ _ _ _ _ _ _)
      | (with_reducible exact ih5 _ _ _ _ _ _ _ _)
      | (with_reducible exact twoslotlaw07_alive.mono _)
      | (with_reducible exact twoslotref07_Same.mono _ _ _)
      | (with_reducible exact vector_Below.mono _ _ _ _ _ _ _)
      | (with_reducible exact vector_Bump.mono _ _ _ _ _ _ _ _)
      | (with_reducible exact vector_Last.mono _ _ _ _ _ _)
      | (with_reducible exact vector_Unlike.mono _ _ _ _ _ _ _)
      | (with_reducible exact LeO.refl _)
      | (with_reducible exact LeO.none _)
      | (with_reducible refine LeO.ite ?_ ?_)
      | (with_reducible refine LeO.bind ?_ (fun _ => ?_))
      | exact ih0 _ _ _ _ _ _ _ _
      | exact ih1 _ _ _ _ _ _ _ _ _
      | exact ih2 _ _ _ _ _ _ _ _ _
      | exact ih3 _ _ _ _ _ _ _ _ _ _
      | exact ih4 _ _ _ _ _ _ _ _ _ _
      | exact ih5 _ _ _ _ _ _ _ _
      | exact twoslotlaw07_alive.mono _
      | exact twoslotref07_Same.mono _ _ _
      | exact vector_Below.mono _ _ _ _ _ _ _
      | exact vector_Bump.mono _ _ _ _ _ _ _ _
      | exact vector_Last.mono _ _ _ _ _ _
      | exact vector_Unlike.mono _ _ _ _ _ _ _
      | exact LeO.none _
      | refine LeO.ite ?_ ?_
      | refine LeO.bind ?_ (fun _ => ?_)
def twoslotlaw07_VectorBumps.T39 : Bool × List (List Nat × List Nat) := (true, [([], []), ([], []), ([], []), ([], []), ([2, 3], [2, 3]), ([4], [4]), ([5], [5]), ([], []), ([], []), ([], []), ([8, 9], [8, 9]), ([10], [10]), ([7, 11], [7, 11]), ([12], [12]), ([0, 1, 6, 13], [0, 1, 6, 13]), ([14], [14]), ([15], [15]), ([15], [15]), ([16, 14, 0, 1, 2, 3, 4, 5, 6, 7, 8, 9, 10, 11, 12, 13, 14, 15, 16], [16]), ([17, 18, 0, 1, 2, 3, 4, 5, 6, 7, 8, 9, 10, 11, 12, 13, 14, 15, 16, 17, 18], [17])])
def twoslotlaw07_VectorBumps.B39 : List Nat := [0, 0, 0, 0, 12, 28, 60, 0, 0, 0, 768, 1792, 3968, 8064, 16383, 32767, 65535, 65535, 131071, 524287]
theorem twoslotlaw07_VectorBumps.tab39 : rtab .any (opsOf Try.f7 39) = twoslotlaw07_VectorBumps.T39 := by kernel_rfl
theorem twoslotlaw07_VectorBumps.bits39 : waitsOk twoslotlaw07_VectorBumps.T39.2 twoslotlaw07_VectorBumps.B39 = true := by kernel_rfl
set_option maxHeartbeats 8000000 in
set_option maxRecDepth 100000 in
theorem twoslotlaw07_VectorBumps.calls (k : Nat) (a0_0 : Int) (a0_1 : Int) (a0_2 : Int) (a0_3 : Int) (P1_ : Nat → Prop) (A1 : Option Addr) (c1 : Nat) (l1 : List Int) (A2 : Option Addr) (c2 : Nat) (l2 : List Int) (A3 : Option Addr) (c3 : Nat) (l3 : List Int) (r : Bool) (w : World) (hs1 : Kd.V (Kd.int .i64) 3 w w.heap.size (fun k_ => P1_ k_) (.slice A1 l1.length c1) l1) (hr2 : Kd.C (Kd.int .i64) w A2 l2.length l2) (hc2 : l2.length ≤ c2) (hr3 : Kd.C (Kd.int .i64) w A3 l3.length l3) (hc3 : l3.length ≤ c3) (h : twoslotlaw07_VectorBumps.f k a0_0 a0_1 a0_2 a0_3 l1 l2 l3 = some r) :
    Calls Try.prog 7 #[.agg #[.int .i64 a0_0, .int .i64 a0_1, .int .i64 a0_2, .int .i64 a0_3], .slice A1 l1.length c1, .slice A2 l2.length c2, .slice A3 l3.length c3] w fun e w' => e = .returned (.bool r) ∧ Below w.heap.size w w' := by
  have hu24 := Try.underlying24
  have HO1 := Aside0.mk (show Kd.V (Kd.int .i64) 3 w w.heap.size (fun k_ => (P1_ k_ ∨ w.heap.size ≤ k_)) (.slice A1 l1.length c1) l1 from Kd.V_mono hs1 (fun k_ hk => .inl hk))
  have HR2 := Aside0.mk hr2
  have HC2 := Aside0.mk hc2
  clear hr2 hc2
  have HR3 := Aside0.mk hr3
  have HC3 := Aside0.mk hc3
  clear hr3 hc3
  have HB := Aside0.mk (Below.refl w.heap.size w)
  have H : ((twoslotlaw07_alive.f k).bind fun t216 => (if t216 = true then (if (l1.length : Int) > 200 then (twoslotlaw07_VectorBumps.j0 k l1 l2 l3 true a0_0 a0_1 a0_2 a0_3) else (if (l2.length : Int) > 200 then (twoslotlaw07_VectorBumps.j0 k l1 l2 l3 true a0_0 a0_1 a0_2 a0_3) else (twoslotlaw07_VectorBumps.j0 k l1 l2 l3 (decide ((l3.length : Int) > 200)) a0_0 a0_1 a0_2 a0_3))) else (none))) = some r := h
  clear h
  replace H := Option.bind_eq_some_iff.mp H
  obtain ⟨t216, A50, H⟩ := H
  replace H : (if t216 = true then (if (l1.length : Int) > 200 then (twoslotlaw07_VectorBumps.j0 k l1 l2 l3 true a0_0 a0_1 a0_2 a0_3) else (if (l2.length : Int) > 200 then (twoslotlaw07_VectorBumps.j0 k l1 l2 l3 true a0_0 a0_1 a0_2 a0_3) else (twoslotlaw07_VectorBumps.j0 k l1 l2 l3 (decide ((l3.length : Int) > 200)) a0_0 a0_1 a0_2 a0_3))) else (none)) = some r := H
  have A5 := Aside0.mk A50
  clear A50
  by_cases c6 : t216 = true
  · subst c6
    have H1 : (if (l1.length : Int) > 200 then (twoslotlaw07_VectorBumps.j0 k l1 l2 l3 true a0_0 a0_1 a0_2 a0_3) else (if (l2.length : Int) > 200 then (twoslotlaw07_VectorBumps.j0 k l1 l2 l3 true a0_0 a0_1 a0_2 a0_3) else (twoslotlaw07_VectorBumps.j0 k l1 l2 l3 (decide ((l3.length : Int) > 200)) a0_0 a0_1 a0_2 a0_3))) = some r := by rw [if_pos rfl] at H; exact H
    clear H
    have H := H1
    clear H1
    have HC7 := Aside0.mk H
    clear H
    go_enter Try.func7, Try.ntmps7
    go_upto_region 4 with (first | ((with_reducible refine gate_dst (N := 4) rfl ?_); (try (refine gate_guard (by rfl) ?_; dsimp only)); refine box_event ?hg (N := 4) ?hd (cs := #[.int .i64 a0_0, .int .i64 a0_1, .int .i64 a0_2, .int .i64 a0_3]) (t := 24) ?hr ?_; (case hd => rfl); (case hg => rfl); (case hr => first | (go_simp; done) | (go_simp; rfl)); intro gb215 hg w8 hbox hb; have n0_ := Aside0.mk (Kd.V_below (Kd.V_elderB (by (with_reducible repeat (first | apply Kd.V_alloc | apply Kd.V_drewN | apply Kd.V_drew)); exact HO1.out) gb215 (Nat.le_of_eq hg.symm)) hb); have n1_ := Aside0.mk (below_step (by repeat (first | (with_reducible first | exact HB.out | apply below_alloc | apply pw_below_drewN | apply below_drew1) | exact HB.out)) hb); have n2_ := Aside0.mk (hbox); have n3_ := Aside0.mk ((by rw [hg]; exact (below_size (by repeat (first | (with_reducible first | exact HB.out | apply below_alloc | apply pw_below_drewN | apply below_drew1) | exact HB.out))) : w.heap.size ≤ gb215)); have n4_ := Aside0.mk ((by rw [hg]; exact (below_size (by repeat (first | (with_reducible first | exact HB.out | apply below_alloc | apply pw_below_drewN | apply below_drew1) | exact HB.out))) : w.heap.size ≤ gb215)); clear HO1; clear HB; have HO1 := n0_; have HB := n1_; have BK215 := n2_; have GW215 := n3_; have GE215 := n4_; clear n0_ n1_ n2_ n3_ n4_; clear hb hbox hg) | ((with_reducible refine gate_callee (f := 8) rfl ?_); refine goesL_ (some 28) rfl rfl Try.func8 (by kernel_rfl) rfl #[] rfl (by (try simp only [List.map_toArray, List.map_cons, List.map_nil]); first | done | rfl | (simp only [List.length_drop, List.length_take]; rfl)) ?_; (with_reducible refine (twoslotlaw07_alive.calls k  true _ A5.out).mono ?_); rintro e w9 ⟨rfl, hb⟩; refine ⟨_, rfl, ?_⟩; have n0_ := Aside0.mk (Kd.V_below (by (with_reducible repeat (first | apply Kd.V_alloc | apply Kd.V_drewN | apply Kd.V_drew)); exact HO1.out) hb); have n1_ := Aside0.mk (blk_below (g := gb215) (o := .cells #[.int .i64 a0_0, .int .i64 a0_1, .int .i64 a0_2, .int .i64 a0_3] 24 (0, 0)) (by (with_reducible repeat (first | refine blk_drewN ?_ _ | refine blk_drew ?_ | refine blk_alloc ?_ _)); exact BK215.out) hb); have n2_ := Aside0.mk (below_step (by repeat (first | (with_reducible first | exact HB.out | apply below_alloc | apply pw_below_drewN | apply below_drew1 | refine below_set ?_ GE215.out) | exact HB.out)) hb); clear HO1; clear BK215; clear HB; have HO1 := n0_; have BK215 := n1_; have HB := n2_; clear n0_ n1_ n2_; (try clear hb); (try clear hb2); (try clear hk); (try clear hi)))
    (try simp only [Act.put, List.setIfInBounds_toArray, List.set_cons_zero, List.set_cons_succ])
    go_cut [43] (fun v43 wc => ∃ (kq : Nat) (x43_6 : Bool), v43 = .bool x43_6 ∧ Aside0 (twoslotlaw07_VectorBumps.j0 kq l1 l2 l3 x43_6 a0_0 a0_1 a0_2 a0_3 = some r) ∧ Aside0 (kq ≤ k) ∧ Aside0 (Kd.V (Kd.int .i64) 3 wc w.heap.size (fun k_ => (P1_ k_ ∨ w.heap.size ≤ k_) ∧ k_ ≠ gb215) (.slice A1 l1.length c1) l1) ∧ Aside0 (wc.heap[gb215]? = some (.cells #[.int .i64 a0_0, .int .i64 a0_1, .int .i64 a0_2, .int .i64 a0_3] 24 (0, 0))) ∧ Aside0 (Below w.heap.size w wc))
    case first =>
      have H := HC7.out
      clear HC7
      by_cases c10 : (l1.length : Int) > 200
      · rw [if_pos c10] at H
        have c10b0 : decide (200 < (l1.length : Int)) = true := decide_eq_true c10
        have c10b1 : decide (200 < l1.length) = true := decide_eq_true (by omega)
        clear c10
        (first | rw [c10b0] | (simp only [i64_w, i32_w]; rw [c10b0]) | skip)
        have H' := Aside0.mk H
        clear H
        go_wp2
        go_meet
        case rel => exact ⟨_, (true), (by first | rfl | (simp; done) | (simp [*]; done)), H', ⟨by first | omega | exact Nat.le_refl _⟩, ⟨by (with_reducible repeat (first | apply Kd.V_alloc | apply Kd.V_drewN | apply Kd.V_drew)); exact HO1.out⟩, ⟨by (with_reducible repeat (first | refine blk_drewN ?_ _ | refine blk_drew ?_ | refine blk_alloc ?_ _)); exact BK215.out⟩, ⟨by repeat (first | (with_reducible first | exact HB.out | apply below_alloc | apply pw_below_drewN | apply below_drew1 | refine below_set ?_ GE215.out) | exact HB.out)⟩⟩
      · rw [if_neg c10] at H
        have c10b0 : decide (200 < (l1.length : Int)) = false := decide_eq_false c10
        have c10b1 : decide (200 < l1.length) = false := decide_eq_false (by omega)
        clear c10
        (first | rw [c10b0] | (simp only [i64_w, i32_w]; rw [c10b0]) | skip)
        by_cases c11 : (l2.length : Int) > 200
        · rw [if_pos c11] at H
          have c11b0 : decide (200 < (l2.length : Int)) = true := decide_eq_true c11
          have c11b1 : decide (200 < l2.length) = true := decide_eq_true (by omega)
          clear c11
          have H' := Aside0.mk H
          clear H
          go_wp2
          go_meet
          case rel => exact ⟨_, (true), (by first | rfl | (simp; done) | (simp [*]; done)), H', ⟨by first | omega | exact Nat.le_refl _⟩, ⟨by (with_reducible repeat (first | apply Kd.V_alloc | apply Kd.V_drewN | apply Kd.V_drew)); exact HO1.out⟩, ⟨by (with_reducible repeat (first | refine blk_drewN ?_ _ | refine blk_drew ?_ | refine blk_alloc ?_ _)); exact BK215.out⟩, ⟨by repeat (first | (with_reducible first | exact HB.out | apply below_alloc | apply pw_below_drewN | apply below_drew1 | refine below_set ?_ GE215.out) | exact HB.out)⟩⟩
        · rw [if_neg c11] at H
          have c11b0 : decide (200 < (l2.length : Int)) = false := decide_eq_false c11
          have c11b1 : decide (200 < l2.length) = false := decide_eq_false (by omega)
          clear c11
          have H' := Aside0.mk H
          clear H
          go_wp2
          go_meet
          case rel => exact ⟨_, (decide ((l3.length : Int) > 200)), (by first | rfl | (simp; done) | (simp [*]; done)), H', ⟨by first | omega | exact Nat.le_refl _⟩, ⟨by (with_reducible repeat (first | apply Kd.V_alloc | apply Kd.V_drewN | apply Kd.V_drew)); exact HO1.out⟩, ⟨by (with_reducible repeat (first | refine blk_drewN ?_ _ | refine blk_drew ?_ | refine blk_alloc ?_ _)); exact BK215.out⟩, ⟨by repeat (first | (with_reducible first | exact HB.out | apply below_alloc | apply pw_below_drewN | apply below_drew1 | refine below_set ?_ GE215.out) | exact HB.out)⟩⟩
    case rest =>
      clear HC7
      try clear c1
      try clear c2
      try clear p2
      try clear c3
      try clear c6
      try clear c7
      try clear c8
      try clear c10
      try clear c10b0
      try clear c10b1
      try clear c11
      try clear c11b0
      try clear c11b1
      obtain ⟨kq, x43_6, rfl, HA, HJ6, HO_1, BK215, HB⟩ := hcut
      cases kq with
      | zero => exact absurd HA.out (by simp [twoslotlaw07_VectorBumps.j0])
      | succ kj6 =>
        have H := HA.out
        clear HA
        simp only [twoslotlaw07_VectorBumps.j0] at H
        by_cases c12 : x43_6 = true
        · subst c12
          have H1 : (some true) = some r := by rw [if_pos rfl] at H; exact H
          clear H
          have H := H1
          clear H1
          obtain rfl := Option.some.inj H
          go_wp2
          go_ret
          exact ⟨by first | rfl | (simp [errW_none, errW_some] <;> rfl) | (simp [*, errW_none, errW_some] <;> rfl), by repeat (first | (with_reducible first | exact HB.out | apply below_alloc | apply pw_below_drewN | apply below_drew1 | refine below_set ?_ GE215.out) | exact HB.out)⟩
        · replace c12 := Bool.eq_false_iff.mpr c12
          subst c12
          have H1 : ((vector_Last.f kj6 a0_0 a0_1 a0_2 a0_3 l1).bind fun bt217 => (if bt217.2 = 0 then (twoslotlaw07_VectorBumps.j1 kj6 l1 l2 l3 bt217.1 (bt217.1 == 1073741824) a0_0 a0_1 a0_2 a0_3) else (twoslotlaw07_VectorBumps.j1 kj6 l1 l2 l3 bt217.1 true a0_0 a0_1 a0_2 a0_3))) = some r := by rw [if_neg (show ¬ (false = true) by decide)] at H; exact H
          clear H
          have H := H1
          clear H1
          replace H := Option.bind_eq_some_iff.mp H
          obtain ⟨⟨t217, t218⟩, A130, H⟩ := H
          replace H : (if t218 = 0 then (twoslotlaw07_VectorBumps.j1 kj6 l1 l2 l3 t217 (t217 == 1073741824) a0_0 a0_1 a0_2 a0_3) else (twoslotlaw07_VectorBumps.j1 kj6 l1 l2 l3 t217 true a0_0 a0_1 a0_2 a0_3)) = some r := H
          have A13 := Aside0.mk A130
          clear A130
          have HC14 := Aside0.mk H
          clear H
          have hcz15_0 : wc.cell? ⟨gb215, 0, none⟩ = some (.int .i64 a0_0) := (blk_cell BK215.out 0).trans rfl
          have hcz15_1 : wc.cell? ⟨gb215, 1, none⟩ = some (.int .i64 a0_1) := (blk_cell BK215.out 1).trans rfl
          have hcz15_2 : wc.cell? ⟨gb215, 2, none⟩ = some (.int .i64 a0_2) := (blk_cell BK215.out 2).trans rfl
          have hcz15_3 : wc.cell? ⟨gb215, 3, none⟩ = some (.int .i64 a0_3) := (blk_cell BK215.out 3).trans rfl
          have hfz15_0 := blk_frozen BK215.out 0
          have hfz15_1 := blk_frozen BK215.out 1
          have hfz15_2 := blk_frozen BK215.out 2
          have hfz15_3 := blk_frozen BK215.out 3
          go_upto_region 7 with (first | ((with_reducible refine gate_callee (f := 11) rfl ?_); refine goesL_ (some 47) rfl rfl Try.func11 (by kernel_rfl) rfl #[.agg #[.int .i64 a0_0, .int .i64 a0_1, .int .i64 a0_2, .int .i64 a0_3], .slice A1 l1.length c1] rfl (by (try simp only [List.map_toArray, List.map_cons, List.map_nil]); first | done | rfl | (simp only [List.length_drop, List.length_take]; rfl)) ?_; (with_reducible refine (vector_Last.calls kj6 a0_0 a0_1 a0_2 a0_3 _ _ l1 t217 t218 _ ?side1 ?side2 A13.out).mono ?_); (case side1 => repeat (first | exact (Kd.V_reads' HO_1.out).2.2 | (with_reducible refine Kd.C_alloc ?_ _) | (with_reducible refine Kd.C_drewN ?_ _) | (with_reducible refine Kd.C_drew ?_))); (case side2 => exact (Kd.V_reads' HO_1.out).2.1); rintro e w16 ⟨rfl, hb⟩; refine ⟨_, rfl, ?_⟩; have n0_ := Aside0.mk (Kd.V_below (by (with_reducible repeat (first | apply Kd.V_alloc | apply Kd.V_drewN | apply Kd.V_drew)); exact HO_1.out) hb); have n1_ := Aside0.mk (blk_below (g := gb215) (o := .cells #[.int .i64 a0_0, .int .i64 a0_1, .int .i64 a0_2, .int .i64 a0_3] 24 (0, 0)) (by (with_reducible repeat (first | refine blk_drewN ?_ _ | refine blk_drew ?_ | refine blk_alloc ?_ _)); exact BK215.out) hb); have n2_ := Aside0.mk (below_step (by repeat (first | (with_reducible first | exact HB.out | apply below_alloc | apply pw_below_drewN | apply below_drew1 | refine below_set ?_ GE215.out) | exact HB.out)) hb); clear HO_1; clear BK215; clear HB; have HO_1 := n0_; have BK215 := n1_; have HB := n2_; clear n0_ n1_ n2_; (try clear hb); (try clear hb2); (try clear hk); (try clear hi)))
          (try simp only [Act.put, List.setIfInBounds_toArray, List.set_cons_zero, List.set_cons_succ])
          go_cut [55] (fun v55 wc => ∃ (kq : Nat) (x55_13 : Bool), v55 = .bool x55_13 ∧ Aside0 (twoslotlaw07_VectorBumps.j1 kq l1 l2 l3 t217 x55_13 a0_0 a0_1 a0_2 a0_3 = some r) ∧ Aside0 (kq ≤ kj6) ∧ Aside0 (Kd.V (Kd.int .i64) 3 wc w.heap.size (fun k_ => (P1_ k_ ∨ w.heap.size ≤ k_) ∧ k_ ≠ gb215) (.slice A1 l1.length c1) l1) ∧ Aside0 (wc.heap[gb215]? = some (.cells #[.int .i64 a0_0, .int .i64 a0_1, .int .i64 a0_2, .int .i64 a0_3] 24 (0, 0))) ∧ Aside0 (Below w.heap.size w wc))
          case first =>
            have H := HC14.out
            clear HC14
            by_cases c17 : t218 = 0
            · rw [if_pos c17] at H
              have c17b0 : (t218 == 0) = true := beq_iff_eq.mpr c17
              have c17b1 : (t218 != 0) = false := bne_eq_false_iff_eq.mpr c17
              clear c17
              (first | rw [c17b0] | (simp only [i64_w, i32_w]; rw [c17b0]) | skip)
              have H' := Aside0.mk H
              clear H
              go_wp2
              go_meet
              case rel => exact ⟨_, ((t217 == 1073741824)), (by first | rfl | (simp; done) | (simp [*]; done)), H', ⟨by have := HJ6.out; first | omega | exact Nat.le_refl _⟩, ⟨by (with_reducible repeat (first | apply Kd.V_alloc | apply Kd.V_drewN | apply Kd.V_drew)); exact HO_1.out⟩, ⟨by (with_reducible repeat (first | refine blk_drewN ?_ _ | refine blk_drew ?_ | refine blk_alloc ?_ _)); exact BK215.out⟩, ⟨by repeat (first | (with_reducible first | exact HB.out | apply below_alloc | apply pw_below_drewN | apply below_drew1 | refine below_set ?_ GE215.out) | exact HB.out)⟩⟩
            · rw [if_neg c17] at H
              have c17b0 : (t218 == 0) = false := beq_eq_false_iff_ne.mpr c17
              have c17b1 : (t218 != 0) = true := bne_iff_ne.mpr c17
              (first | rw [c17b0] | (simp only [i64_w, i32_w]; rw [c17b0]) | skip)
              have H' := Aside0.mk H
              clear H
              go_wp2
              go_meet
              case rel => exact ⟨_, (true), (by first | rfl | (simp; done) | (simp [*]; done)), H', ⟨by have := HJ6.out; first | omega | exact Nat.le_refl _⟩, ⟨by (with_reducible repeat (first | apply Kd.V_alloc | apply Kd.V_drewN | apply Kd.V_drew)); exact HO_1.out⟩, ⟨by (with_reducible repeat (first | refine blk_drewN ?_ _ | refine blk_drew ?_ | refine blk_alloc ?_ _)); exact BK215.out⟩, ⟨by repeat (first | (with_reducible first | exact HB.out | apply below_alloc | apply pw_below_drewN | apply below_drew1 | refine below_set ?_ GE215.out) | exact HB.out)⟩⟩
          case rest =>
            clear HC14
            try clear c1
            try clear c2
            try clear p2
            try clear c3
            try clear c6
            try clear c7
            try clear c8
            try clear c10
            try clear c10b0
            try clear c10b1
            try clear c11
            try clear c11b0
            try clear c11b1
            try clear c12
            try clear c17
            try clear c17b0
            try clear c17b1
            try clear hcz15_0
            try clear hcz15_1
            try clear hcz15_2
            try clear hcz15_3
            try clear hfz15_0
            try clear hfz15_1
            try clear hfz15_2
            try clear hfz15_3
            try clear p2
            obtain ⟨kq, x55_13, rfl, HA, HJ13, HO_1, BK215, HB⟩ := hcut
            cases kq with
            | zero => exact absurd HA.out (by simp [twoslotlaw07_VectorBumps.j1])
            | succ kj13 =>
              have H := HA.out
              clear HA
              simp only [twoslotlaw07_VectorBumps.j1] at H
              by_cases c18 : x55_13 = true
              · subst c18
                have H1 : (some true) = some r := by rw [if_pos rfl] at H; exact H
                clear H
                have H := H1
                clear H1
                obtain rfl := Option.some.inj H
                go_wp2
                go_ret
                exact ⟨by first | rfl | (simp [errW_none, errW_some] <;> rfl) | (simp [*, errW_none, errW_some] <;> rfl), by repeat (first | (with_reducible first | exact HB.out | apply below_alloc | apply pw_below_drewN | apply below_drew1 | refine below_set ?_ GE215.out) | exact HB.out)⟩
              · replace c18 := Bool.eq_false_iff.mpr c18
                subst c18
                have H1 : ((vector_Bump.f kj13 a0_0 a0_1 a0_2 a0_3 l1 l3 (wrap64 (t217 + 1))).bind fun bt219 => (if bt219.2 = 0 then ((vector_Unlike.f kj13 a0_0 a0_1 a0_2 a0_3 l1 bt219.1).bind fun bt223 => ((vector_Last.f kj13 a0_0 a0_1 a0_2 a0_3 bt219.1).bind fun bt227 => ((vector_Below.f kj13 a0_0 a0_1 a0_2 a0_3 l1 bt219.1).bind fun bt229 => (if bt223.2 = 0 then (if bt227.2 = 0 then (if bt229.2 = 0 then (if bt229.1 = true then (if (l3.length : Int) > 0 then (if bt227.1 = (wrap64 (t217 + 1)) then (if (l3.length : Int) = 0 then (twoslotlaw07_VectorBumps.j2 kj13 l1 l2 l3 bt223.1 (bt227.1 != t217) a0_0 a0_1 a0_2 a0_3) else (twoslotlaw07_VectorBumps.j2 kj13 l1 l2 l3 bt223.1 false a0_0 a0_1 a0_2 a0_3)) else (none)) else (if (l3.length : Int) = 0 then (twoslotlaw07_VectorBumps.j2 kj13 l1 l2 l3 bt223.1 (bt227.1 != t217) a0_0 a0_1 a0_2 a0_3) else (twoslotlaw07_VectorBumps.j2 kj13 l1 l2 l3 bt223.1 false a0_0 a0_1 a0_2 a0_3))) else (none)) else (none)) else (none)) else (none))))) else (some ((bt219.1.length : Int) == 0)))) = some r := by rw [if_neg (show ¬ (false = true) by decide)] at H; exact H
                clear H
                have H := H1
                clear H1
                replace H := Option.bind_eq_some_iff.mp H
                obtain ⟨⟨t219, t222⟩, A190, H⟩ := H
                replace H : (if t222 = 0 then ((vector_Unlike.f kj13 a0_0 a0_1 a0_2 a0_3 l1 t219).bind fun bt223 => ((vector_Last.f kj13 a0_0 a0_1 a0_2 a0_3 t219).bind fun bt227 => ((vector_Below.f kj13 a0_0 a0_1 a0_2 a0_3 l1 t219).bind fun bt229 => (if bt223.2 = 0 then (if bt227.2 = 0 then (if bt229.2 = 0 then (if bt229.1 = true then (if (l3.length : Int) > 0 then (if bt227.1 = (wrap64 (t217 + 1)) then (if (l3.length : Int) = 0 then (twoslotlaw07_VectorBumps.j2 kj13 l1 l2 l3 bt223.1 (bt227.1 != t217) a0_0 a0_1 a0_2 a0_3) else (twoslotlaw07_VectorBumps.j2 kj13 l1 l2 l3 bt223.1 false a0_0 a0_1 a0_2 a0_3)) else (none)) else (if (l3.length : Int) = 0 then (twoslotlaw07_VectorBumps.j2 kj13 l1 l2 l3 bt223.1 (bt227.1 != t217) a0_0 a0_1 a0_2 a0_3) else (twoslotlaw07_VectorBumps.j2 kj13 l1 l2 l3 bt223.1 false a0_0 a0_1 a0_2 a0_3))) else (none)) else (none)) else (none)) else (none))))) else (some ((t219.length : Int) == 0))) = some r := H
                have A19 := Aside0.mk A190
                clear A190
                by_cases c20 : t222 = 0
                · rw [if_pos c20] at H
                  have c20b0 : (t222 == 0) = true := beq_iff_eq.mpr c20
                  have c20b1 : (t222 != 0) = false := bne_eq_false_iff_eq.mpr c20
                  clear c20
                  replace H := Option.bind_eq_some_iff.mp H
                  obtain ⟨⟨t223, t226⟩, A210, H⟩ := H
                  replace H : ((vector_Last.f kj13 a0_0 a0_1 a0_2 a0_3 t219).bind fun bt227 => ((vector_Below.f kj13 a0_0 a0_1 a0_2 a0_3 l1 t219).bind fun bt229 => (if t226 = 0 then (if bt227.2 = 0 then (if bt229.2 = 0 then (if bt229.1 = true then (if (l3.length : Int) > 0 then (if bt227.1 = (wrap64 (t217 + 1)) then (if (l3.length : Int) = 0 then (twoslotlaw07_VectorBumps.j2 kj13 l1 l2 l3 t223 (bt227.1 != t217) a0_0 a0_1 a0_2 a0_3) else (twoslotlaw07_VectorBumps.j2 kj13 l1 l2 l3 t223 false a0_0 a0_1 a0_2 a0_3)) else (none)) else (if (l3.length : Int) = 0 then (twoslotlaw07_VectorBumps.j2 kj13 l1 l2 l3 t223 (bt227.1 != t217) a0_0 a0_1 a0_2 a0_3) else (twoslotlaw07_VectorBumps.j2 kj13 l1 l2 l3 t223 false a0_0 a0_1 a0_2 a0_3))) else (none)) else (none)) else (none)) else (none)))) = some r := H
                  have A21 := Aside0.mk A210
                  clear A210
                  replace H := Option.bind_eq_some_iff.mp H
                  obtain ⟨⟨t227, t228⟩, A220, H⟩ := H
                  replace H : ((vector_Below.f kj13 a0_0 a0_1 a0_2 a0_3 l1 t219).bind fun bt229 => (if t226 = 0 then (if t228 = 0 then (if bt229.2 = 0 then (if bt229.1 = true then (if (l3.length : Int) > 0 then (if t227 = (wrap64 (t217 + 1)) then (if (l3.length : Int) = 0 then (twoslotlaw07_VectorBumps.j2 kj13 l1 l2 l3 t223 (t227 != t217) a0_0 a0_1 a0_2 a0_3) else (twoslotlaw07_VectorBumps.j2 kj13 l1 l2 l3 t223 false a0_0 a0_1 a0_2 a0_3)) else (none)) else (if (l3.length : Int) = 0 then (twoslotlaw07_VectorBumps.j2 kj13 l1 l2 l3 t223 (t227 != t217) a0_0 a0_1 a0_2 a0_3) else (twoslotlaw07_VectorBumps.j2 kj13 l1 l2 l3 t223 false a0_0 a0_1 a0_2 a0_3))) else (none)) else (none)) else (none)) else (none))) = some r := H
                  have A22 := Aside0.mk A220
                  clear A220
                  replace H := Option.bind_eq_some_iff.mp H
                  obtain ⟨⟨t229, t230⟩, A230, H⟩ := H
                  replace H : (if t226 = 0 then (if t228 = 0 then (if t230 = 0 then (if t229 = true then (if (l3.length : Int) > 0 then (if t227 = (wrap64 (t217 + 1)) then (if (l3.length : Int) = 0 then (twoslotlaw07_VectorBumps.j2 kj13 l1 l2 l3 t223 (t227 != t217) a0_0 a0_1 a0_2 a0_3) else (twoslotlaw07_VectorBumps.j2 kj13 l1 l2 l3 t223 false a0_0 a0_1 a0_2 a0_3)) else (none)) else (if (l3.length : Int) = 0 then (twoslotlaw07_VectorBumps.j2 kj13 l1 l2 l3 t223 (t227 != t217) a0_0 a0_1 a0_2 a0_3) else (twoslotlaw07_VectorBumps.j2 kj13 l1 l2 l3 t223 false a0_0 a0_1 a0_2 a0_3))) else (none)) else (none)) else (none)) else (none)) = some r := H
                  have A23 := Aside0.mk A230
                  clear A230
                  have HC24 := Aside0.mk H
                  clear H
                  have hcz25_0 : wc.cell? ⟨gb215, 0, none⟩ = some (.int .i64 a0_0) := (blk_cell BK215.out 0).trans rfl
                  have hcz25_1 : wc.cell? ⟨gb215, 1, none⟩ = some (.int .i64 a0_1) := (blk_cell BK215.out 1).trans rfl
                  have hcz25_2 : wc.cell? ⟨gb215, 2, none⟩ = some (.int .i64 a0_2) := (blk_cell BK215.out 2).trans rfl
                  have hcz25_3 : wc.cell? ⟨gb215, 3, none⟩ = some (.int .i64 a0_3) := (blk_cell BK215.out 3).trans rfl
                  have hfz25_0 := blk_frozen BK215.out 0
                  have hfz25_1 := blk_frozen BK215.out 1
                  have hfz25_2 := blk_frozen BK215.out 2
                  have hfz25_3 := blk_frozen BK215.out 3
                  go_upto_region 15 with (first | ((with_reducible refine gate_callee (f := 12) rfl ?_); refine goesL_ (some 62) rfl rfl Try.func12 (by kernel_rfl) rfl #[.agg #[.int .i64 a0_0, .int .i64 a0_1, .int .i64 a0_2, .int .i64 a0_3], .slice A1 l1.length c1, .slice A3 l3.length c3, .int .i64 (wrap64 (t217 + 1))] rfl (by (try simp only [List.map_toArray, List.map_cons, List.map_nil]); first | done | rfl | (simp only [List.length_drop, List.length_take]; rfl)) ?_; (with_reducible refine (vector_Bump.calls kj13 a0_0 a0_1 a0_2 a0_3 _ _ l1 _ _ l3 (wrap64 (t217 + 1)) t219 t222 _ ?side1 ?side2 ?side3 ?side4 A19.out).mono ?_); (case side1 => repeat (first | exact (Kd.V_reads' HO_1.out).2.2 | (with_reducible refine Kd.C_alloc ?_ _) | (with_reducible refine Kd.C_drewN ?_ _) | (with_reducible refine Kd.C_drew ?_))); (case side2 => exact (Kd.V_reads' HO_1.out).2.1); (case side3 => repeat (first | exact (Kd.C_below HR3.out HB.out) | (with_reducible refine Kd.C_alloc ?_ _) | (with_reducible refine Kd.C_drewN ?_ _) | (with_reducible refine Kd.C_drew ?_))); (case side4 => exact HC3.out); rintro e w26 ⟨v220, rfl, ho0, hb⟩; refine ⟨_, rfl, ?_⟩; have n0_ := Aside0.mk (Kd.V_elder' (by (with_reducible repeat (first | apply Kd.V_alloc | apply Kd.V_drewN | apply Kd.V_drew)); exact HO_1.out) (Kd.R_base ho0) hb); have n1_ := Aside0.mk (Kd.R_lower (Kd.R_newM (M := fun k_ => (w.heap.size ≤ k_)) ho0 (below_size (by repeat (first | (with_reducible first | exact HB.out | apply below_alloc | apply pw_below_drewN | apply below_drew1 | refine below_set ?_ GE215.out) | exact HB.out))) (fun k_ h_ => h_)) (below_size (by repeat (first | (with_reducible first | exact HB.out | apply below_alloc | apply pw_below_drewN | apply below_drew1 | refine below_set ?_ GE215.out) | exact HB.out)))); have n2_ := Aside0.mk (blk_below (g := gb215) (o := .cells #[.int .i64 a0_0, .int .i64 a0_1, .int .i64 a0_2, .int .i64 a0_3] 24 (0, 0)) (by (with_reducible repeat (first | refine blk_drewN ?_ _ | refine blk_drew ?_ | refine blk_alloc ?_ _)); exact BK215.out) hb); have n3_ := Aside0.mk (below_step (by repeat (first | (with_reducible first | exact HB.out | apply below_alloc | apply pw_below_drewN | apply below_drew1 | refine below_set ?_ GE215.out) | exact HB.out)) hb); clear HO_1; clear BK215; clear HB; have HO_1 := n0_; have HO221 := n1_; have BK215 := n2_; have HB := n3_; clear n0_ n1_ n2_ n3_; (try clear hb); (try clear hb2); (try clear hk); (try clear hi); (try clear ho0); have hcz27_0 : w26.cell? ⟨gb215, 0, none⟩ = some (.int .i64 a0_0) := (blk_cell BK215.out 0).trans rfl; have hcz27_1 : w26.cell? ⟨gb215, 1, none⟩ = some (.int .i64 a0_1) := (blk_cell BK215.out 1).trans rfl; have hcz27_2 : w26.cell? ⟨gb215, 2, none⟩ = some (.int .i64 a0_2) := (blk_cell BK215.out 2).trans rfl; have hcz27_3 : w26.cell? ⟨gb215, 3, none⟩ = some (.int .i64 a0_3) := (blk_cell BK215.out 3).trans rfl; have hfz27_0 := blk_frozen BK215.out 0; have hfz27_1 := blk_frozen BK215.out 1; have hfz27_2 := blk_frozen BK215.out 2; have hfz27_3 := blk_frozen BK215.out 3; obtain ⟨Ao28, co28, eo28⟩ := Kd.R_slice HO221.out; subst eo28) | ((with_reducible refine gate_callee (f := 15) rfl ?_); refine goesL_ (some 74) rfl rfl Try.func15 (by kernel_rfl) rfl #[.agg #[.int .i64 a0_0, .int .i64 a0_1, .int .i64 a0_2, .int .i64 a0_3], .slice A1 l1.length c1, .slice Ao28 t219.length co28] rfl (by (try simp only [List.map_toArray, List.map_cons, List.map_nil]); first | done | rfl | (simp only [List.length_drop, List.length_take]; rfl)) ?_; (with_reducible refine (vector_Unlike.calls kj13 a0_0 a0_1 a0_2 a0_3 _ _ l1 _ _ t219 t223 t226 _ ?side1 ?side2 ?side3 ?side4 A21.out).mono ?_); (case side1 => repeat (first | exact (Kd.V_reads' HO_1.out).2.2 | (with_reducible refine Kd.C_alloc ?_ _) | (with_reducible refine Kd.C_drewN ?_ _) | (with_reducible refine Kd.C_drew ?_))); (case side2 => exact (Kd.V_reads' HO_1.out).2.1); (case side3 => repeat (first | exact (Kd.R_reads' HO221.out).2.2 | (with_reducible refine Kd.C_alloc ?_ _) | (with_reducible refine Kd.C_drewN ?_ _) | (with_reducible refine Kd.C_drew ?_))); (case side4 => exact (Kd.R_reads' HO221.out).2.1); rintro e w29 ⟨v224, rfl, ho0, hb⟩; refine ⟨_, rfl, ?_⟩; have n0_ := Aside0.mk (Kd.V_elder' (by (with_reducible repeat (first | apply Kd.V_alloc | apply Kd.V_drewN | apply Kd.V_drew)); exact HO_1.out) (Kd.R_base ho0) hb); have n1_ := Aside0.mk (Kd.R_elder' (by (with_reducible repeat (first | apply Kd.R_alloc | apply Kd.R_drewN | apply Kd.R_drew)); exact HO221.out) (Kd.R_base ho0) hb); have n2_ := Aside0.mk (Kd.R_lower (Kd.R_new' (Kd.R_newM (M := fun k_ => (w.heap.size ≤ k_)) ho0 (below_size (by repeat (first | (with_reducible first | exact HB.out | apply below_alloc | apply pw_below_drewN | apply below_drew1 | refine below_set ?_ GE215.out) | exact HB.out))) (fun k_ h_ => h_)) (Kd.R_lt (by (with_reducible repeat (first | apply Kd.R_alloc | apply Kd.R_drewN | apply Kd.R_drew)); exact HO221.out))) (below_size (by repeat (first | (with_reducible first | exact HB.out | apply below_alloc | apply pw_below_drewN | apply below_drew1 | refine below_set ?_ GE215.out) | exact HB.out)))); have n3_ := Aside0.mk (blk_below (g := gb215) (o := .cells #[.int .i64 a0_0, .int .i64 a0_1, .int .i64 a0_2, .int .i64 a0_3] 24 (0, 0)) (by (with_reducible repeat (first | refine blk_drewN ?_ _ | refine blk_drew ?_ | refine blk_alloc ?_ _)); exact BK215.out) hb); have n4_ := Aside0.mk (below_step (by repeat (first | (with_reducible first | exact HB.out | apply below_alloc | apply pw_below_drewN | apply below_drew1 | refine below_set ?_ GE215.out) | exact HB.out)) hb); clear HO_1; clear HO221; clear BK215; clear HB; have HO_1 := n0_; have HO221 := n1_; have HO225 := n2_; have BK215 := n3_; have HB := n4_; clear n0_ n1_ n2_ n3_ n4_; (try clear hb); (try clear hb2); (try clear hk); (try clear hi); (try clear ho0); have hcz30_0 : w29.cell? ⟨gb215, 0, none⟩ = some (.int .i64 a0_0) := (blk_cell BK215.out 0).trans rfl; have hcz30_1 : w29.cell? ⟨gb215, 1, none⟩ = some (.int .i64 a0_1) := (blk_cell BK215.out 1).trans rfl; have hcz30_2 : w29.cell? ⟨gb215, 2, none⟩ = some (.int .i64 a0_2) := (blk_cell BK215.out 2).trans rfl; have hcz30_3 : w29.cell? ⟨gb215, 3, none⟩ = some (.int .i64 a0_3) := (blk_cell BK215.out 3).trans rfl; have hfz30_0 := blk_frozen BK215.out 0; have hfz30_1 := blk_frozen BK215.out 1; have hfz30_2 := blk_frozen BK215.out 2; have hfz30_3 := blk_frozen BK215.out 3) | ((with_reducible refine gate_callee (f := 11) rfl ?_); refine goesL_ (some 80) rfl rfl Try.func11 (by kernel_rfl) rfl #[.agg #[.int .i64 a0_0, .int .i64 a0_1, .int .i64 a0_2, .int .i64 a0_3], .slice Ao28 t219.length co28] rfl (by (try simp only [List.map_toArray, List.map_cons, List.map_nil]); first | done | rfl | (simp only [List.length_drop, List.length_take]; rfl)) ?_; (with_reducible refine (vector_Last.calls kj13 a0_0 a0_1 a0_2 a0_3 _ _ t219 t227 t228 _ ?side1 ?side2 A22.out).mono ?_); (case side1 => repeat (first | exact (Kd.R_reads' HO221.out).2.2 | (with_reducible refine Kd.C_alloc ?_ _) | (with_reducible refine Kd.C_drewN ?_ _) | (with_reducible refine Kd.C_drew ?_))); (case side2 => exact (Kd.R_reads' HO221.out).2.1); rintro e w31 ⟨rfl, hb⟩; refine ⟨_, rfl, ?_⟩; have n0_ := Aside0.mk (Kd.V_below (by (with_reducible repeat (first | apply Kd.V_alloc | apply Kd.V_drewN | apply Kd.V_drew)); exact HO_1.out) hb); have n1_ := Aside0.mk (Kd.R_below (by (with_reducible repeat (first | apply Kd.R_alloc | apply Kd.R_drewN | apply Kd.R_drew)); exact HO221.out) hb); have n2_ := Aside0.mk (Kd.R_below (by (with_reducible repeat (first | apply Kd.R_alloc | apply Kd.R_drewN | apply Kd.R_drew)); exact HO225.out) hb); have n3_ := Aside0.mk (blk_below (g := gb215) (o := .cells #[.int .i64 a0_0, .int .i64 a0_1, .int .i64 a0_2, .int .i64 a0_3] 24 (0, 0)) (by (with_reducible repeat (first | refine blk_drewN ?_ _ | refine blk_drew ?_ | refine blk_alloc ?_ _)); exact BK215.out) hb); have n4_ := Aside0.mk (below_step (by repeat (first | (with_reducible first | exact HB.out | apply below_alloc | apply pw_below_drewN | apply below_drew1 | refine below_set ?_ GE215.out) | exact HB.out)) hb); clear HO_1; clear HO221; clear HO225; clear BK215; clear HB; have HO_1 := n0_; have HO221 := n1_; have HO225 := n2_; have BK215 := n3_; have HB := n4_; clear n0_ n1_ n2_ n3_ n4_; (try clear hb); (try clear hb2); (try clear hk); (try clear hi); have hcz32_0 : w31.cell? ⟨gb215, 0, none⟩ = some (.int .i64 a0_0) := (blk_cell BK215.out 0).trans rfl; have hcz32_1 : w31.cell? ⟨gb215, 1, none⟩ = some (.int .i64 a0_1) := (blk_cell BK215.out 1).trans rfl; have hcz32_2 : w31.cell? ⟨gb215, 2, none⟩ = some (.int .i64 a0_2) := (blk_cell BK215.out 2).trans rfl; have hcz32_3 : w31.cell? ⟨gb215, 3, none⟩ = some (.int .i64 a0_3) := (blk_cell BK215.out 3).trans rfl; have hfz32_0 := blk_frozen BK215.out 0; have hfz32_1 := blk_frozen BK215.out 1; have hfz32_2 := blk_frozen BK215.out 2; have hfz32_3 := blk_frozen BK215.out 3) | ((with_reducible refine gate_callee (f := 14) rfl ?_); refine goesL_ (some 87) rfl rfl Try.func14 (by kernel_rfl) rfl #[.agg #[.int .i64 a0_0, .int .i64 a0_1, .int .i64 a0_2, .int .i64 a0_3], .slice A1 l1.length c1, .slice Ao28 t219.length co28] rfl (by (try simp only [List.map_toArray, List.map_cons, List.map_nil]); first | done | rfl | (simp only [List.length_drop, List.length_take]; rfl)) ?_; (with_reducible refine (vector_Below.calls kj13 a0_0 a0_1 a0_2 a0_3 _ _ l1 _ _ t219 t229 t230 _ ?side1 ?side2 ?side3 ?side4 A23.out).mono ?_); (case side1 => repeat (first | exact (Kd.V_reads' HO_1.out).2.2 | (with_reducible refine Kd.C_alloc ?_ _) | (with_reducible refine Kd.C_drewN ?_ _) | (with_reducible refine Kd.C_drew ?_))); (case side2 => exact (Kd.V_reads' HO_1.out).2.1); (case side3 => repeat (first | exact (Kd.R_reads' HO221.out).2.2 | (with_reducible refine Kd.C_alloc ?_ _) | (with_reducible refine Kd.C_drewN ?_ _) | (with_reducible refine Kd.C_drew ?_))); (case side4 => exact (Kd.R_reads' HO221.out).2.1); rintro e w33 ⟨rfl, hb⟩; refine ⟨_, rfl, ?_⟩; have n0_ := Aside0.mk (Kd.V_below (by (with_reducible repeat (first | apply Kd.V_alloc | apply Kd.V_drewN | apply Kd.V_drew)); exact HO_1.out) hb); have n1_ := Aside0.mk (Kd.R_below (by (with_reducible repeat (first | apply Kd.R_alloc | apply Kd.R_drewN | apply Kd.R_drew)); exact HO221.out) hb); have n2_ := Aside0.mk (Kd.R_below (by (with_reducible repeat (first | apply Kd.R_alloc | apply Kd.R_drewN | apply Kd.R_drew)); exact HO225.out) hb); have n3_ := Aside0.mk (blk_below (g := gb215) (o := .cells #[.int .i64 a0_0, .int .i64 a0_1, .int .i64 a0_2, .int .i64 a0_3] 24 (0, 0)) (by (with_reducible repeat (first | refine blk_drewN ?_ _ | refine blk_drew ?_ | refine blk_alloc ?_ _)); exact BK215.out) hb); have n4_ := Aside0.mk (below_step (by repeat (first | (with_reducible first | exact HB.out | apply below_alloc | apply pw_below_drewN | apply below_drew1 | refine below_set ?_ GE215.out) | exact HB.out)) hb); clear HO_1; clear HO221; clear HO225; clear BK215; clear HB; have HO_1 := n0_; have HO221 := n1_; have HO225 := n2_; have BK215 := n3_; have HB := n4_; clear n0_ n1_ n2_ n3_ n4_; (try clear hb); (try clear hb2); (try clear hk); (try clear hi)))
                  (try simp only [Act.put, List.setIfInBounds_toArray, List.set_cons_zero, List.set_cons_succ])
                  go_cut [124] (fun v124 wc => ∃ (kq : Nat) (x124_23 : Bool), v124 = .bool x124_23 ∧ Aside0 (twoslotlaw07_VectorBumps.j2 kq l1 l2 l3 t223 x124_23 a0_0 a0_1 a0_2 a0_3 = some r) ∧ Aside0 (kq ≤ kj13) ∧ Aside0 (Kd.V (Kd.int .i64) 3 wc w.heap.size (fun k_ => (P1_ k_ ∨ w.heap.size ≤ k_) ∧ some k_ ≠ (v224 : Value).ownBlock ∧ k_ ≠ gb215) (.slice A1 l1.length c1) l1) ∧ Aside0 (Kd.R (Kd.int .i64) 3 wc w.heap.size (fun k_ => (w.heap.size ≤ k_)) v224 t223) ∧ Aside0 (wc.heap[gb215]? = some (.cells #[.int .i64 a0_0, .int .i64 a0_1, .int .i64 a0_2, .int .i64 a0_3] 24 (0, 0))) ∧ Aside0 (Below w.heap.size w wc))
                  case first =>
                    have H := HC24.out
                    clear HC24
                    by_cases c34 : t226 = 0
                    · rw [if_pos c34] at H
                      have c34b0 : (t226 == 0) = true := beq_iff_eq.mpr c34
                      have c34b1 : (t226 != 0) = false := bne_eq_false_iff_eq.mpr c34
                      clear c34
                      (first | rw [c34b0] | (simp only [i64_w, i32_w]; rw [c34b0]) | skip)
                      by_cases c35 : t228 = 0
                      · rw [if_pos c35] at H
                        have c35b0 : (t228 == 0) = true := beq_iff_eq.mpr c35
                        have c35b1 : (t228 != 0) = false := bne_eq_false_iff_eq.mpr c35
                        clear c35
                        by_cases c36 : t230 = 0
                        · rw [if_pos c36] at H
                          have c36b0 : (t230 == 0) = true := beq_iff_eq.mpr c36
                          have c36b1 : (t230 != 0) = false := bne_eq_false_iff_eq.mpr c36
                          clear c36
                          by_cases c37 : t229 = true
                          · subst c37
                            have H1 : (if (l3.length : Int) > 0 then (if t227 = (wrap64 (t217 + 1)) then (if (l3.length : Int) = 0 then (twoslotlaw07_VectorBumps.j2 kj13 l1 l2 l3 t223 (t227 != t217) a0_0 a0_1 a0_2 a0_3) else (twoslotlaw07_VectorBumps.j2 kj13 l1 l2 l3 t223 false a0_0 a0_1 a0_2 a0_3)) else (none)) else (if (l3.length : Int) = 0 then (twoslotlaw07_VectorBumps.j2 kj13 l1 l2 l3 t223 (t227 != t217) a0_0 a0_1 a0_2 a0_3) else (twoslotlaw07_VectorBumps.j2 kj13 l1 l2 l3 t223 false a0_0 a0_1 a0_2 a0_3))) = some r := by rw [if_pos rfl] at H; exact H
                            clear H
                            have H := H1
                            clear H1
                            by_cases c38 : (l3.length : Int) > 0
                            · rw [if_pos c38] at H
                              have c38b0 : decide (0 < (l3.length : Int)) = true := decide_eq_true c38
                              have c38b1 : decide (0 < l3.length) = true := decide_eq_true (by omega)
                              clear c38
                              by_cases c39 : t227 = (wrap64 (t217 + 1))
                              · rw [if_pos c39] at H
                                have c39b0 : (t227 == (wrap64 (t217 + 1))) = true := beq_iff_eq.mpr c39
                                have c39b1 : (t227 != (wrap64 (t217 + 1))) = false := bne_eq_false_iff_eq.mpr c39
                                clear c39
                                by_cases c40 : (l3.length : Int) = 0
                                · rw [if_pos c40] at H
                                  have c40b0 : ((l3.length : Int) == 0) = true := beq_iff_eq.mpr c40
                                  have c40b1 : ((l3.length : Int) != 0) = false := bne_eq_false_iff_eq.mpr c40
                                  clear c40
                                  have H' := Aside0.mk H
                                  clear H
                                  go_wp2
                                  go_meet
                                  case rel => exact ⟨_, ((t227 != t217)), (by first | rfl | (simp; done) | (simp [*]; done)), H', ⟨by have := HJ6.out; have := HJ13.out; first | omega | exact Nat.le_refl _⟩, ⟨by (with_reducible repeat (first | apply Kd.V_alloc | apply Kd.V_drewN | apply Kd.V_drew)); exact Kd.V_mono HO_1.out (fun _ hk => ⟨hk.1.1.1, ⟨hk.2, hk.1.1.2⟩⟩)⟩, ⟨by (with_reducible repeat (first | apply Kd.R_alloc | apply Kd.R_drewN | apply Kd.R_drew)); exact Kd.R_mono HO225.out (fun _ hk => hk.1.1)⟩, ⟨by (with_reducible repeat (first | refine blk_drewN ?_ _ | refine blk_drew ?_ | refine blk_alloc ?_ _)); exact BK215.out⟩, ⟨by repeat (first | (with_reducible first | exact HB.out | apply below_alloc | apply pw_below_drewN | apply below_drew1 | refine below_set ?_ GE215.out) | exact HB.out)⟩⟩
                                · rw [if_neg c40] at H
                                  have c40b0 : ((l3.length : Int) == 0) = false := beq_eq_false_iff_ne.mpr c40
                                  have c40b1 : ((l3.length : Int) != 0) = true := bne_iff_ne.mpr c40
                                  have c40b2 : ¬ (l3 = []) := fun h_ => c40 (by rw [h_]; rfl)
                                  have H' := Aside0.mk H
                                  clear H
                                  go_wp2
                                  go_meet
                                  case rel => exact ⟨_, (false), (by first | rfl | (simp; done) | (simp [*]; done)), H', ⟨by have := HJ6.out; have := HJ13.out; first | omega | exact Nat.le_refl _⟩, ⟨by (with_reducible repeat (first | apply Kd.V_alloc | apply Kd.V_drewN | apply Kd.V_drew)); exact Kd.V_mono HO_1.out (fun _ hk => ⟨hk.1.1.1, ⟨hk.2, hk.1.1.2⟩⟩)⟩, ⟨by (with_reducible repeat (first | apply Kd.R_alloc | apply Kd.R_drewN | apply Kd.R_drew)); exact Kd.R_mono HO225.out (fun _ hk => hk.1.1)⟩, ⟨by (with_reducible repeat (first | refine blk_drewN ?_ _ | refine blk_drew ?_ | refine blk_alloc ?_ _)); exact BK215.out⟩, ⟨by repeat (first | (with_reducible first | exact HB.out | apply below_alloc | apply pw_below_drewN | apply below_drew1 | refine below_set ?_ GE215.out) | exact HB.out)⟩⟩
                              · rw [if_neg c39] at H
                                exact absurd H (by simp)
                            · rw [if_neg c38] at H
                              have c38b0 : decide (0 < (l3.length : Int)) = false := decide_eq_false c38
                              have c38b1 : decide (0 < l3.length) = false := decide_eq_false (by omega)
                              clear c38
                              by_cases c41 : (l3.length : Int) = 0
                              · rw [if_pos c41] at H
                                have c41b0 : ((l3.length : Int) == 0) = true := beq_iff_eq.mpr c41
                                have c41b1 : ((l3.length : Int) != 0) = false := bne_eq_false_iff_eq.mpr c41
                                clear c41
                                have H' := Aside0.mk H
                                clear H
                                go_wp2
                                go_meet
                                case rel => exact ⟨_, ((t227 != t217)), (by first | rfl | (simp; done) | (simp [*]; done)), H', ⟨by have := HJ6.out; have := HJ13.out; first | omega | exact Nat.le_refl _⟩, ⟨by (with_reducible repeat (first | apply Kd.V_alloc | apply Kd.V_drewN | apply Kd.V_drew)); exact Kd.V_mono HO_1.out (fun _ hk => ⟨hk.1.1.1, ⟨hk.2, hk.1.1.2⟩⟩)⟩, ⟨by (with_reducible repeat (first | apply Kd.R_alloc | apply Kd.R_drewN | apply Kd.R_drew)); exact Kd.R_mono HO225.out (fun _ hk => hk.1.1)⟩, ⟨by (with_reducible repeat (first | refine blk_drewN ?_ _ | refine blk_drew ?_ | refine blk_alloc ?_ _)); exact BK215.out⟩, ⟨by repeat (first | (with_reducible first | exact HB.out | apply below_alloc | apply pw_below_drewN | apply below_drew1 | refine below_set ?_ GE215.out) | exact HB.out)⟩⟩
                              · rw [if_neg c41] at H
                                have c41b0 : ((l3.length : Int) == 0) = false := beq_eq_false_iff_ne.mpr c41
                                have c41b1 : ((l3.length : Int) != 0) = true := bne_iff_ne.mpr c41
                                have c41b2 : ¬ (l3 = []) := fun h_ => c41 (by rw [h_]; rfl)
                                have H' := Aside0.mk H
                                clear H
                                go_wp2
                                go_meet
                                case rel => exact ⟨_, (false), (by first | rfl | (simp; done) | (simp [*]; done)), H', ⟨by have := HJ6.out; have := HJ13.out; first | omega | exact Nat.le_refl _⟩, ⟨by (with_reducible repeat (first | apply Kd.V_alloc | apply Kd.V_drewN | apply Kd.V_drew)); exact Kd.V_mono HO_1.out (fun _ hk => ⟨hk.1.1.1, ⟨hk.2, hk.1.1.2⟩⟩)⟩, ⟨by (with_reducible repeat (first | apply Kd.R_alloc | apply Kd.R_drewN | apply Kd.R_drew)); exact Kd.R_mono HO225.out (fun _ hk => hk.1.1)⟩, ⟨by (with_reducible repeat (first | refine blk_drewN ?_ _ | refine blk_drew ?_ | refine blk_alloc ?_ _)); exact BK215.out⟩, ⟨by repeat (first | (with_reducible first | exact HB.out | apply below_alloc | apply pw_below_drewN | apply below_drew1 | refine below_set ?_ GE215.out) | exact HB.out)⟩⟩
                          · replace c37 := Bool.eq_false_iff.mpr c37
                            subst c37
                            have H1 : (none) = some r := by rw [if_neg (show ¬ (false = true) by decide)] at H; exact H
                            clear H
                            have H := H1
                            clear H1
                            exact absurd H (by simp)
                        · rw [if_neg c36] at H
                          exact absurd H (by simp)
                      · rw [if_neg c35] at H
                        exact absurd H (by simp)
                    · rw [if_neg c34] at H
                      exact absurd H (by simp)
                  case rest =>
                    clear HC24
                    try clear c1
                    try clear c2
                    try clear p2
                    try clear c3
                    try clear c4
                    try clear c6
                    try clear p6
                    try clear c7
                    try clear c8
                    try clear c10
                    try clear c10b0
                    try clear c10b1
                    try clear c11
                    try clear c11b0
                    try clear c11b1
                    try clear c12
                    try clear c14
                    try clear c15
                    try clear c17
                    try clear c17b0
                    try clear c17b1
                    try clear c18
                    try clear c20
                    try clear c20b0
                    try clear c20b1
                    try clear c34
                    try clear c34b0
                    try clear c34b1
                    try clear c35
                    try clear c35b0
                    try clear c35b1
                    try clear c36
                    try clear c36b0
                    try clear c36b1
                    try clear c37
                    try clear c38
                    try clear c38b0
                    try clear c38b1
                    try clear c39
                    try clear c39b0
                    try clear c39b1
                    try clear c40
                    try clear c40b0
                    try clear c40b1
                    try clear c40b2
                    try clear c41
                    try clear c41b0
                    try clear c41b1
                    try clear c41b2
                    try clear hcz15_0
                    try clear hcz15_1
                    try clear hcz15_2
                    try clear hcz15_3
                    try clear hcz25_0
                    try clear hcz25_1
                    try clear hcz25_2
                    try clear hcz25_3
                    try clear hcz27_0
                    try clear hcz27_1
                    try clear hcz27_2
                    try clear hcz27_3
                    try clear hcz30_0
                    try clear hcz30_1
                    try clear hcz30_2
                    try clear hcz30_3
                    try clear hcz32_0
                    try clear hcz32_1
                    try clear hcz32_2
                    try clear hcz32_3
                    try clear hfz15_0
                    try clear hfz15_1
                    try clear hfz15_2
                    try clear hfz15_3
                    try clear hfz25_0
                    try clear hfz25_1
                    try clear hfz25_2
                    try clear hfz25_3
                    try clear hfz27_0
                    try clear hfz27_1
                    try clear hfz27_2
                    try clear hfz27_3
                    try clear hfz30_0
                    try clear hfz30_1
                    try clear hfz30_2
                    try clear hfz30_3
                    try clear hfz32_0
                    try clear hfz32_1
                    try clear hfz32_2
                    try clear hfz32_3
                    try clear p2
                    obtain ⟨kq, x124_23, rfl, HA, HJ23, HO_1, HO_13, BK215, HB⟩ := hcut
                    cases kq with
                    | zero => exact absurd HA.out (by simp [twoslotlaw07_VectorBumps.j2])
                    | succ kj23 =>
                      have H := HA.out
                      clear HA
                      simp only [twoslotlaw07_VectorBumps.j2] at H
                      by_cases c42 : x124_23 = true
                      · subst c42
                        have H1 : (none) = some r := by rw [if_pos rfl] at H; exact H
                        clear H
                        have H := H1
                        clear H1
                        exact absurd H (by simp)
                      · replace c42 := Bool.eq_false_iff.mpr c42
                        subst c42
                        have H1 : (if 0 ≤ (l1.length : Int) then (if ((l1.length : Int) : Int).toNat ≤ 281474976710656 then (twoslotlaw07_VectorBumps.l0 kj23 l1 l2 l3 t223 (List.replicate ((l1.length : Int) : Int).toNat false) 0 a0_0 a0_1 a0_2 a0_3) else (none)) else (none)) = some r := by rw [if_neg (show ¬ (false = true) by decide)] at H; exact H
                        clear H
                        have H := H1
                        clear H1
                        by_cases c43 : 0 ≤ (l1.length : Int)
                        · rw [if_pos c43] at H
                          have c43b0 := eq_true c43
                          have c43b1 : decide (0 ≤ (l1.length : Int)) = true := decide_eq_true c43
                          clear c43
                          by_cases c44 : ((l1.length : Int) : Int).toNat ≤ 281474976710656
                          · rw [if_pos c44] at H
                            have c44b0 := eq_true c44
                            have c44b1 : decide (((l1.length : Int) : Int).toNat ≤ 281474976710656) = true := decide_eq_true c44
                            clear c44
                            obtain ⟨y231, hy231⟩ : ∃ y_ : List Bool, y_ = (List.replicate ((l1.length : Int) : Int).toNat false) := ⟨_, rfl⟩
                            replace H : (twoslotlaw07_VectorBumps.l0 kj23 l1 l2 l3 t223 y231 0 a0_0 a0_1 a0_2 a0_3) = some r := by first | (rw [hy231]; with_reducible exact H) | (have H2_ := (Option.bind_some _ _).symm.trans H; rw [hy231]; with_reducible exact H2_) | (have H2_ := (Option.bind_some _ _).symm.trans H; with_reducible exact H2_) | with_reducible exact H | (rw [hy231]; exact H) | exact H
                            have Ny231 := Aside0.mk hy231
                            clear hy231
                            have H' := Aside0.mk H
                            clear H
                            go_wp2_with (first | ((with_reducible refine gate_dst (N := 127) rfl ?_); (try (refine gate_guard (by rfl) ?_; dsimp only)); refine Kd.R_make Kd.bool _ 4 rfl (N := 127) rfl 43 _ _ rfl (l1.length : Int) rfl rfl Try.underlying43 (.bool false) 1 info4 rfl (by decide) (by omega) false (ok := fun _ => True) (okp := fun _ => True) rfl (fun _ hk => hk) trivial (of_decide_eq_true (by first | (with_reducible assumption) | assumption)) (Nat.le_trans (Nat.mul_le_mul_right _ (of_decide_eq_true (by first | (with_reducible assumption) | assumption) : (l1.length : Int).toNat ≤ 281474976710656)) (by omega)) (Below.refl _ _) (Nat.le_refl _) ?_; intro v232 w45 ho46 hb hg_ hnew_; clear hg_ hnew_; (first | rw [← Ny231.out] at ho46 | (simp only [Int.reduceToNat] at ho46; rw [← Ny231.out] at ho46)); have n0_ := Aside0.mk (Kd.V_elder' (by (with_reducible repeat (first | apply Kd.V_alloc | apply Kd.V_drewN | apply Kd.V_drew)); exact HO_1.out) (Kd.R_base ho46) hb); have n1_ := Aside0.mk (Kd.R_below (by (with_reducible repeat (first | apply Kd.R_alloc | apply Kd.R_drewN | apply Kd.R_drew)); exact HO_13.out) hb); have n2_ := Aside0.mk (Kd.R_lower (Kd.R_newM (M := fun k_ => (w.heap.size ≤ k_)) ho46 (below_size (by repeat (first | (with_reducible first | exact HB.out | apply below_alloc | apply pw_below_drewN | apply below_drew1 | refine below_set ?_ GE215.out) | exact HB.out))) (fun k_ h_ => h_)) (below_size (by repeat (first | (with_reducible first | exact HB.out | apply below_alloc | apply pw_below_drewN | apply below_drew1 | refine below_set ?_ GE215.out) | exact HB.out)))); have n3_ := Aside0.mk (blk_below (g := gb215) (o := .cells #[.int .i64 a0_0, .int .i64 a0_1, .int .i64 a0_2, .int .i64 a0_3] 24 (0, 0)) (by (with_reducible repeat (first | refine blk_drewN ?_ _ | refine blk_drew ?_ | refine blk_alloc ?_ _)); exact BK215.out) hb); have n4_ := Aside0.mk (below_step (by repeat (first | (with_reducible first | exact HB.out | apply below_alloc | apply pw_below_drewN | apply below_drew1 | refine below_set ?_ GE215.out) | exact HB.out)) hb); clear HO_1; clear HO_13; clear BK215; clear HB; have HO_1 := n0_; have HO_13 := n1_; have HO233 := n2_; have BK215 := n3_; have HB := n4_; clear n0_ n1_ n2_ n3_ n4_; clear hb ho46))
                            go_loopg [20] kj23 (fun kq v20 w' => ∃ (x19_4 : List Bool) (x20_4 : Int), v20 = .int .i64 x20_4 ∧ Aside0 (twoslotlaw07_VectorBumps.l0 kq l1 l2 l3 t223 x19_4 x20_4 a0_0 a0_1 a0_2 a0_3 = some r) ∧ Aside0 (kq ≤ kj23) ∧ Aside0 (Kd.V (Kd.int .i64) 3 w' w.heap.size (fun k_ => (P1_ k_ ∨ w.heap.size ≤ k_) ∧ some k_ ≠ (v224 : Value).ownBlock ∧ some k_ ≠ (v232 : Value).ownBlock ∧ k_ ≠ gb215) (.slice A1 l1.length c1) l1) ∧ Aside0 (Kd.R (Kd.int .i64) 3 w' w.heap.size (fun k_ => (w.heap.size ≤ k_)) v224 t223) ∧ Aside0 (Kd.R Kd.bool 4 w' w.heap.size (fun k_ => (w.heap.size ≤ k_)) v232 x19_4) ∧ Aside0 (w'.heap[gb215]? = some (.cells #[.int .i64 a0_0, .int .i64 a0_1, .int .i64 a0_2, .int .i64 a0_3] 24 (0, 0))) ∧ Aside0 (Below w.heap.size w w'))
                            case atStart => exact ⟨(y231), (0), (by first | rfl | (simp; done) | (simp [*]; done)), H', ⟨Nat.le_refl _⟩, ⟨by (with_reducible repeat (first | apply Kd.V_alloc | apply Kd.V_drewN | apply Kd.V_drew)); exact Kd.V_mono HO_1.out (fun _ hk => ⟨hk.1.1, ⟨hk.1.2.1, ⟨hk.2, hk.1.2.2⟩⟩⟩)⟩, ⟨by (with_reducible repeat (first | apply Kd.R_alloc | apply Kd.R_drewN | apply Kd.R_drew)); exact HO_13.out⟩, ⟨by (with_reducible repeat (first | apply Kd.R_alloc | apply Kd.R_drewN | apply Kd.R_drew)); exact Kd.R_mono HO233.out (fun _ hk => hk.1)⟩, ⟨by (with_reducible repeat (first | refine blk_drewN ?_ _ | refine blk_drew ?_ | refine blk_alloc ?_ _)); exact BK215.out⟩, ⟨by repeat (first | (with_reducible first | exact HB.out | apply below_alloc | apply pw_below_drewN | apply below_drew1 | refine below_set ?_ GE215.out) | exact HB.out)⟩⟩
                            case round =>
                              clear H'
                              try clear c1
                              try clear c2
                              try clear p2
                              try clear c3
                              try clear c4
                              try clear c6
                              try clear p6
                              try clear c7
                              try clear c8
                              try clear c10
                              try clear c10b0
                              try clear c10b1
                              try clear c11
                              try clear c11b0
                              try clear c11b1
                              try clear c12
                              try clear c14
                              try clear c15
                              try clear c17
                              try clear c17b0
                              try clear c17b1
                              try clear c18
                              try clear c20
                              try clear c20b0
                              try clear c20b1
                              try clear c34
                              try clear c34b0
                              try clear c34b1
                              try clear c35
                              try clear c35b0
                              try clear c35b1
                              try clear c36
                              try clear c36b0
                              try clear c36b1
                              try clear c37
                              try clear c38
                              try clear c38b0
                              try clear c38b1
                              try clear c39
                              try clear c39b0
                              try clear c39b1
                              try clear c40
                              try clear c40b0
                              try clear c40b1
                              try clear c40b2
                              try clear c41
                              try clear c41b0
                              try clear c41b1
                              try clear c41b2
                              try clear c42
                              try clear c43
                              try clear c43b0
                              try clear c43b1
                              try clear c44
                              try clear c44b0
                              try clear c44b1
                              try clear hcz15_0
                              try clear hcz15_1
                              try clear hcz15_2
                              try clear hcz15_3
                              try clear hcz25_0
                              try clear hcz25_1
                              try clear hcz25_2
                              try clear hcz25_3
                              try clear hcz27_0
                              try clear hcz27_1
                              try clear hcz27_2
                              try clear hcz27_3
                              try clear hcz30_0
                              try clear hcz30_1
                              try clear hcz30_2
                              try clear hcz30_3
                              try clear hcz32_0
                              try clear hcz32_1
                              try clear hcz32_2
                              try clear hcz32_3
                              try clear hfz15_0
                              try clear hfz15_1
                              try clear hfz15_2
                              try clear hfz15_3
                              try clear hfz25_0
                              try clear hfz25_1
                              try clear hfz25_2
                              try clear hfz25_3
                              try clear hfz27_0
                              try clear hfz27_1
                              try clear hfz27_2
                              try clear hfz27_3
                              try clear hfz30_0
                              try clear hfz30_1
                              try clear hfz30_2
                              try clear hfz30_3
                              try clear hfz32_0
                              try clear hfz32_1
                              try clear hfz32_2
                              try clear hfz32_3
                              try clear p2
                              try clear p6
                              obtain ⟨x19_4, x20_4, rfl, HA, HK4, HO_1, HO_13, HO_19, BK215, HB⟩ := hrel
                              cases gk with
                              | zero => exact absurd HA.out (by simp [twoslotlaw07_VectorBumps.l0])
                              | succ k4 =>
                                have H := HA.out
                                clear HA
                                simp only [twoslotlaw07_VectorBumps.l0] at H
                                by_cases c47 : x20_4 < (l3.length : Int)
                                · rw [if_pos c47] at H
                                  have c47b0 : decide (x20_4 < (l3.length : Int)) = true := decide_eq_true c47
                                  clear c47
                                  by_cases c48 : 0 ≤ x20_4
                                  · rw [if_pos c48] at H
                                    have c48b0 : decide (0 ≤ x20_4) = true := decide_eq_true c48
                                    clear c48
                                    by_cases c49 : 0 ≤ (rd l3 x20_4)
                                    · rw [if_pos c49] at H
                                      have c49b0 : decide (0 ≤ (rd l3 x20_4)) = true := decide_eq_true c49
                                      clear c49
                                      by_cases c50 : (rd l3 x20_4) < (x19_4.length : Int)
                                      · rw [if_pos c50] at H
                                        have c50b0 : decide ((rd l3 x20_4) < (x19_4.length : Int)) = true := decide_eq_true c50
                                        clear c50
                                        obtain ⟨y235, hy235⟩ : ∃ y_ : List Bool, y_ = (x19_4.set ((rd l3 x20_4) : Int).toNat true) := ⟨_, rfl⟩
                                        replace H : (twoslotlaw07_VectorBumps.l0 k4 l1 l2 l3 t223 y235 (wrap64 (x20_4 + 1)) a0_0 a0_1 a0_2 a0_3) = some r := by first | (rw [hy235]; with_reducible exact H) | (have H2_ := (Option.bind_some _ _).symm.trans H; rw [hy235]; with_reducible exact H2_) | (have H2_ := (Option.bind_some _ _).symm.trans H; with_reducible exact H2_) | with_reducible exact H | (rw [hy235]; exact H) | exact H
                                        have Ny235 := Aside0.mk hy235
                                        clear hy235
                                        have H' := Aside0.mk H
                                        clear H
                                        have p234 : 0 ≤ (x20_4 : Int) := of_decide_eq_true (by first | (with_reducible assumption) | assumption)
                                        have q234 : x20_4 < (l3.length : Int) := of_decide_eq_true (by first | (with_reducible assumption) | assumption)
                                        obtain ⟨ad234, e234, hx234_0⟩ := Kd.at_int HR3.out x20_4 p234 q234
                                        cases e234
                                        replace hx234_0 := (HB.out.cell (World.block_lt_of_cell? w _ hx234_0)).trans hx234_0
                                        replace p234 := eq_true p234
                                        replace q234 := eq_true q234
                                        have p51 : 0 ≤ ((rd l3 x20_4) : Int) := of_decide_eq_true (by first | (with_reducible assumption) | assumption)
                                        have q51 : ((rd l3 x20_4) : Int) < ((x19_4.length : Int) : Int) := of_decide_eq_true (by first | (with_reducible assumption) | assumption)
                                        obtain ⟨go51, co51, eo51, gb51, gl51, cl51, HG51⟩ := Kd.R_form HO_19.out (by omega)
                                        (first | cases eo51 | (injection eo51 with ea_ en_ ec_; (first | subst ea_ | (injection ea_ with ea_; subst ea_)); subst ec_; clear en_))
                                        have GB51 := Aside0.mk gb51
                                        have GG51 := Aside0.mk HG51
                                        clear gb51 gl51 HG51
                                        obtain ⟨hx51_0, hf51_0⟩ := Kd.R_celln false HO_19.out ((rd l3 x20_4) : Int) p51 q51
                                        replace p51 := eq_true p51
                                        replace q51 := eq_true q51
                                        have HP52 := Kd.R_putg HO_19.out ((rd l3 x20_4) : Int) true
                                        go_wp2_with (first | ((with_reducible refine gate_store (t := 4) (p := 139) rfl ?_); refine store_event (t := 4) (p := 139) (v := ?vo_w53) (w1 := (wr.setCell ⟨go51, ((rd l3 x20_4) : Int).toNat, none⟩ (.bool true))) ?hg ?ho ?hn ?hr ?_; (case ho => rfl); (case hg => rfl); (case hn => rfl); (case hr => first | (go_simp; done) | (go_simp; rfl)); intro w53 hw; have hg : wr.grownBy w53 (some go51) := (by rw [hw]; exact HP52.2); have hp_ : Kd.R Kd.bool 4 w53 w.heap.size (fun k_ => (w.heap.size ≤ k_)) (.slice (some ⟨go51, 0, none⟩) x19_4.length co51) y235 := (by rw [hw, Ny235.out]; exact HP52.1); clear HP52; have n0_ := Aside0.mk (Kd.V_afterv (v := (.slice (some ⟨go51, 0, none⟩) x19_4.length co51)) (v1 := (.slice (some ⟨go51, 0, none⟩) x19_4.length co51)) (ok := (fun k_ => (P1_ k_ ∨ w.heap.size ≤ k_) ∧ some k_ ≠ (v224 : Value).ownBlock ∧ k_ ≠ gb215)) (by (with_reducible repeat (first | apply Kd.V_alloc | apply Kd.V_drewN | apply Kd.V_drew)); exact Kd.V_mono HO_1.out (fun _ hk => ⟨⟨hk.1, ⟨hk.2.1, hk.2.2.2⟩⟩, hk.2.2.1⟩)) hg (.inl rfl)); have n1_ := Aside0.mk (Kd.R_over' (v := (.slice (some ⟨go51, 0, none⟩) x19_4.length co51)) (by (with_reducible repeat (first | apply Kd.R_alloc | apply Kd.R_drewN | apply Kd.R_drew)); exact HO_13.out) (Kd.R_typed HO_19.out) (by decide) hg); have n2_ := Aside0.mk (hp_); have n3_ := Aside0.mk (blk_grown (g := gb215) (o := .cells #[.int .i64 a0_0, .int .i64 a0_1, .int .i64 a0_2, .int .i64 a0_3] 24 (0, 0)) (by (with_reducible repeat (first | refine blk_drewN ?_ _ | refine blk_drew ?_ | refine blk_alloc ?_ _)); exact BK215.out) hg (Kd.R_ne HO_19.out BK215.out (by decide))); have n4_ := Aside0.mk ((by rw [hw]; exact below_set (HB.out) GB51.out : Below w.heap.size w w53)); clear HO_1; clear HO_13; clear HO_19; clear BK215; clear HB; have HO_1 := n0_; have HO_13 := n1_; have HO_19 := n2_; have BK215 := n3_; have HB := n4_; clear n0_ n1_ n2_ n3_ n4_; clear hg hw hp_))
                                        go_roundg k4
                                        case measure => have := HJ6.out; have := HJ13.out; have := HJ23.out; have := HK4.out; omega
                                        case rel => exact ⟨(y235), (wrap64 (x20_4 + 1)), (by first | rfl | (simp; done) | (simp [*]; done)), H', ⟨by have := HJ6.out; have := HJ13.out; have := HJ23.out; have := HK4.out; omega⟩, ⟨by (with_reducible repeat (first | apply Kd.V_alloc | apply Kd.V_drewN | apply Kd.V_drew)); exact Kd.V_mono HO_1.out (fun _ hk => ⟨hk.1.1, ⟨hk.1.2.1, ⟨hk.2, hk.1.2.2⟩⟩⟩)⟩, ⟨by (with_reducible repeat (first | apply Kd.R_alloc | apply Kd.R_drewN | apply Kd.R_drew)); exact HO_13.out⟩, ⟨by (with_reducible repeat (first | apply Kd.R_alloc | apply Kd.R_drewN | apply Kd.R_drew)); exact HO_19.out⟩, ⟨by (with_reducible repeat (first | refine blk_drewN ?_ _ | refine blk_drew ?_ | refine blk_alloc ?_ _)); exact BK215.out⟩, ⟨by repeat (first | (with_reducible first | exact HB.out | apply below_alloc | apply pw_below_drewN | apply below_drew1 | refine below_set ?_ GE215.out) | exact HB.out)⟩⟩
                                      · rw [if_neg c50] at H
                                        exact absurd H (by simp)
                                    · rw [if_neg c49] at H
                                      exact absurd H (by simp)
                                  · rw [if_neg c48] at H
                                    exact absurd H (by simp)
                                · rw [if_neg c47] at H
                                  have c47b0 : decide (x20_4 < (l3.length : Int)) = false := decide_eq_false c47
                                  clear c47
                                  have H' := Aside0.mk H
                                  clear H
                                  go_wp2
                                  go_loopg [21, 22] k4 (fun kq v21 v22 w' => ∃ (x21_5 : Int) (x22_5 : Int), v21 = .int .i64 x21_5 ∧ v22 = .int .i64 x22_5 ∧ Aside0 (twoslotlaw07_VectorBumps.l1 kq l1 l2 t223 x19_4 x21_5 x22_5 a0_0 a0_1 a0_2 a0_3 = some r) ∧ Aside0 (kq ≤ k4) ∧ Aside0 (Kd.V (Kd.int .i64) 3 w' w.heap.size (fun k_ => (P1_ k_ ∨ w.heap.size ≤ k_) ∧ some k_ ≠ (v224 : Value).ownBlock ∧ some k_ ≠ (v232 : Value).ownBlock ∧ k_ ≠ gb215) (.slice A1 l1.length c1) l1) ∧ Aside0 (Kd.R (Kd.int .i64) 3 w' w.heap.size (fun k_ => (w.heap.size ≤ k_)) v224 t223) ∧ Aside0 (Kd.R Kd.bool 4 w' w.heap.size (fun k_ => (w.heap.size ≤ k_)) v232 x19_4) ∧ Aside0 (w'.heap[gb215]? = some (.cells #[.int .i64 a0_0, .int .i64 a0_1, .int .i64 a0_2, .int .i64 a0_3] 24 (0, 0))) ∧ Aside0 (Below w.heap.size w w'))
                                  case atStart => exact ⟨(0), (0), (by first | rfl | (simp; done) | (simp [*]; done)), (by first | rfl | (simp; done) | (simp [*]; done)), H', ⟨Nat.le_refl _⟩, ⟨by (with_reducible repeat (first | apply Kd.V_alloc | apply Kd.V_drewN | apply Kd.V_drew)); exact HO_1.out⟩, ⟨by (with_reducible repeat (first | apply Kd.R_alloc | apply Kd.R_drewN | apply Kd.R_drew)); exact HO_13.out⟩, ⟨by (with_reducible repeat (first | apply Kd.R_alloc | apply Kd.R_drewN | apply Kd.R_drew)); exact HO_19.out⟩, ⟨by (with_reducible repeat (first | refine blk_drewN ?_ _ | refine blk_drew ?_ | refine blk_alloc ?_ _)); exact BK215.out⟩, ⟨by repeat (first | (with_reducible first | exact HB.out | apply below_alloc | apply pw_below_drewN | apply below_drew1 | refine below_set ?_ GE215.out) | exact HB.out)⟩⟩
                                  case round =>
                                    clear H'
                                    try clear c1
                                    try clear c2
                                    try clear p2
                                    try clear q2
                                    try clear hx2
                                    try clear c3
                                    try clear c4
                                    try clear c5
                                    try clear p5
                                    try clear q5
                                    try clear hx5
                                    try clear hf5
                                    try clear c6
                                    try clear p6
                                    try clear c7
                                    try clear c8
                                    try clear c10
                                    try clear c10b0
                                    try clear c10b1
                                    try clear c11
                                    try clear c11b0
                                    try clear c11b1
                                    try clear c12
                                    try clear c14
                                    try clear c15
                                    try clear c17
                                    try clear c17b0
                                    try clear c17b1
                                    try clear c18
                                    try clear c20
                                    try clear c20b0
                                    try clear c20b1
                                    try clear p23
                                    try clear q23
                                    try clear hx23
                                    try clear c34
                                    try clear c34b0
                                    try clear c34b1
                                    try clear c35
                                    try clear c35b0
                                    try clear c35b1
                                    try clear c36
                                    try clear c36b0
                                    try clear c36b1
                                    try clear c37
                                    try clear c38
                                    try clear c38b0
                                    try clear c38b1
                                    try clear c39
                                    try clear c39b0
                                    try clear c39b1
                                    try clear c40
                                    try clear c40b0
                                    try clear c40b1
                                    try clear c40b2
                                    try clear c41
                                    try clear c41b0
                                    try clear c41b1
                                    try clear c41b2
                                    try clear c42
                                    try clear c43
                                    try clear c43b0
                                    try clear c43b1
                                    try clear c44
                                    try clear c44b0
                                    try clear c44b1
                                    try clear c47
                                    try clear c47b0
                                    try clear c48
                                    try clear c48b0
                                    try clear c49
                                    try clear c49b0
                                    try clear c50
                                    try clear c50b0
                                    try clear p51
                                    try clear q51
                                    try clear hx51
                                    try clear hf51
                                    try clear hcz15_0
                                    try clear hcz15_1
                                    try clear hcz15_2
                                    try clear hcz15_3
                                    try clear hcz25_0
                                    try clear hcz25_1
                                    try clear hcz25_2
                                    try clear hcz25_3
                                    try clear hcz27_0
                                    try clear hcz27_1
                                    try clear hcz27_2
                                    try clear hcz27_3
                                    try clear hcz30_0
                                    try clear hcz30_1
                                    try clear hcz30_2
                                    try clear hcz30_3
                                    try clear hcz32_0
                                    try clear hcz32_1
                                    try clear hcz32_2
                                    try clear hcz32_3
                                    try clear hfz15_0
                                    try clear hfz15_1
                                    try clear hfz15_2
                                    try clear hfz15_3
                                    try clear hfz25_0
                                    try clear hfz25_1
                                    try clear hfz25_2
                                    try clear hfz25_3
                                    try clear hfz27_0
                                    try clear hfz27_1
                                    try clear hfz27_2
                                    try clear hfz27_3
                                    try clear hfz30_0
                                    try clear hfz30_1
                                    try clear hfz30_2
                                    try clear hfz30_3
                                    try clear hfz32_0
                                    try clear hfz32_1
                                    try clear hfz32_2
                                    try clear hfz32_3
                                    try clear hx234_0
                                    try clear hx51_0
                                    try clear p2
                                    try clear p234
                                    try clear p51
                                    try clear p6
                                    try clear q234
                                    try clear q51
                                    obtain ⟨x21_5, x22_5, rfl, rfl, HA, HK5, HO_1, HO_13, HO_19, BK215, HB⟩ := hrel
                                    cases gk with
                                    | zero => exact absurd HA.out (by simp [twoslotlaw07_VectorBumps.l1])
                                    | succ k5 =>
                                      have H := HA.out
                                      clear HA
                                      simp only [twoslotlaw07_VectorBumps.l1] at H
                                      by_cases c54 : x22_5 < (l1.length : Int)
                                      · rw [if_pos c54] at H
                                        have c54b0 : decide (x22_5 < (l1.length : Int)) = true := decide_eq_true c54
                                        clear c54
                                        by_cases c55 : 0 ≤ x22_5
                                        · rw [if_pos c55] at H
                                          have c55b0 : decide (0 ≤ x22_5) = true := decide_eq_true c55
                                          clear c55
                                          by_cases c56 : x22_5 < (x19_4.length : Int)
                                          · rw [if_pos c56] at H
                                            have c56b0 : decide (x22_5 < (x19_4.length : Int)) = true := decide_eq_true c56
                                            clear c56
                                            obtain ⟨bq57, hbq57⟩ : ∃ b_ : Bool, b_ = (rdOf false x19_4 x22_5) := ⟨_, rfl⟩
                                            replace H : (if bq57 = true then (if x21_5 ≥ (t223.length : Int) then (none) else (if 0 ≤ x21_5 then (if x21_5 < (t223.length : Int) then (if (rd t223 x21_5) = x22_5 then (twoslotlaw07_VectorBumps.l1 k5 l1 l2 t223 x19_4 (wrap64 (x21_5 + 1)) (wrap64 (x22_5 + 1)) a0_0 a0_1 a0_2 a0_3) else (none)) else (none)) else (none))) else (twoslotlaw07_VectorBumps.l1 k5 l1 l2 t223 x19_4 x21_5 (wrap64 (x22_5 + 1)) a0_0 a0_1 a0_2 a0_3)) = some r := by rw [← hbq57] at H; exact H
                                            have Nbq57 := Aside0.mk hbq57
                                            clear hbq57
                                            by_cases c58 : bq57 = true
                                            · subst c58
                                              have H1 : (if x21_5 ≥ (t223.length : Int) then (none) else (if 0 ≤ x21_5 then (if x21_5 < (t223.length : Int) then (if (rd t223 x21_5) = x22_5 then (twoslotlaw07_VectorBumps.l1 k5 l1 l2 t223 x19_4 (wrap64 (x21_5 + 1)) (wrap64 (x22_5 + 1)) a0_0 a0_1 a0_2 a0_3) else (none)) else (none)) else (none))) = some r := by rw [if_pos rfl] at H; exact H
                                              clear H
                                              have H := H1
                                              clear H1
                                              by_cases c59 : x21_5 ≥ (t223.length : Int)
                                              · rw [if_pos c59] at H
                                                exact absurd H (by simp)
                                              · rw [if_neg c59] at H
                                                have c59b0 : decide ((t223.length : Int) ≤ x21_5) = false := decide_eq_false c59
                                                clear c59
                                                by_cases c60 : 0 ≤ x21_5
                                                · rw [if_pos c60] at H
                                                  have c60b0 : decide (0 ≤ x21_5) = true := decide_eq_true c60
                                                  clear c60
                                                  by_cases c61 : x21_5 < (t223.length : Int)
                                                  · rw [if_pos c61] at H
                                                    have c61b0 : decide (x21_5 < (t223.length : Int)) = true := decide_eq_true c61
                                                    clear c61
                                                    by_cases c62 : (rd t223 x21_5) = x22_5
                                                    · rw [if_pos c62] at H
                                                      have c62b0 : ((rd t223 x21_5) == x22_5) = true := beq_iff_eq.mpr c62
                                                      have c62b1 : ((rd t223 x21_5) != x22_5) = false := bne_eq_false_iff_eq.mpr c62
                                                      clear c62
                                                      have H' := Aside0.mk H
                                                      clear H
                                                      obtain ⟨Ao63, co63, eo63⟩ := Kd.R_slice HO_19.out
                                                      subst eo63
                                                      have p236 : 0 ≤ (x22_5 : Int) := of_decide_eq_true (by first | (with_reducible assumption) | assumption)
                                                      have q236 : x22_5 < (x19_4.length : Int) := of_decide_eq_true (by first | (with_reducible assumption) | assumption)
                                                      obtain ⟨ad236, e236, hx236_0⟩ := Kd.at_bool (Kd.R_reads' HO_19.out).2.2 x22_5 p236 q236
                                                      (try rw [← Nbq57.out] at hx236_0)
                                                      cases e236
                                                      replace p236 := eq_true p236
                                                      replace q236 := eq_true q236
                                                      obtain ⟨Ao64, co64, eo64⟩ := Kd.R_slice HO_13.out
                                                      subst eo64
                                                      have p237 : 0 ≤ (x21_5 : Int) := of_decide_eq_true (by first | (with_reducible assumption) | assumption)
                                                      have q237 : x21_5 < (t223.length : Int) := of_decide_eq_true (by first | (with_reducible assumption) | assumption)
                                                      obtain ⟨ad237, e237, hx237_0⟩ := Kd.at_int (Kd.R_reads' HO_13.out).2.2 x21_5 p237 q237
                                                      cases e237
                                                      replace p237 := eq_true p237
                                                      replace q237 := eq_true q237
                                                      go_wp2
                                                      go_roundg k5
                                                      case measure => have := HJ6.out; have := HJ13.out; have := HJ23.out; have := HK4.out; have := HK5.out; omega
                                                      case rel => exact ⟨(wrap64 (x21_5 + 1)), (wrap64 (x22_5 + 1)), (by first | rfl | (simp; done) | (simp [*]; done)), (by first | rfl | (simp; done) | (simp [*]; done)), H', ⟨by have := HJ6.out; have := HJ13.out; have := HJ23.out; have := HK4.out; have := HK5.out; omega⟩, ⟨by (with_reducible repeat (first | apply Kd.V_alloc | apply Kd.V_drewN | apply Kd.V_drew)); exact HO_1.out⟩, ⟨by (with_reducible repeat (first | apply Kd.R_alloc | apply Kd.R_drewN | apply Kd.R_drew)); exact HO_13.out⟩, ⟨by (with_reducible repeat (first | apply Kd.R_alloc | apply Kd.R_drewN | apply Kd.R_drew)); exact HO_19.out⟩, ⟨by (with_reducible repeat (first | refine blk_drewN ?_ _ | refine blk_drew ?_ | refine blk_alloc ?_ _)); exact BK215.out⟩, ⟨by repeat (first | (with_reducible first | exact HB.out | apply below_alloc | apply pw_below_drewN | apply below_drew1 | refine below_set ?_ GE215.out) | exact HB.out)⟩⟩
                                                    · rw [if_neg c62] at H
                                                      exact absurd H (by simp)
                                                  · rw [if_neg c61] at H
                                                    exact absurd H (by simp)
                                                · rw [if_neg c60] at H
                                                  exact absurd H (by simp)
                                            · replace c58 := Bool.eq_false_iff.mpr c58
                                              subst c58
                                              have H1 : (twoslotlaw07_VectorBumps.l1 k5 l1 l2 t223 x19_4 x21_5 (wrap64 (x22_5 + 1)) a0_0 a0_1 a0_2 a0_3) = some r := by rw [if_neg (show ¬ (false = true) by decide)] at H; exact H
                                              clear H
                                              have H := H1
                                              clear H1
                                              have H' := Aside0.mk H
                                              clear H
                                              obtain ⟨Ao65, co65, eo65⟩ := Kd.R_slice HO_19.out
                                              subst eo65
                                              have p236 : 0 ≤ (x22_5 : Int) := of_decide_eq_true (by first | (with_reducible assumption) | assumption)
                                              have q236 : x22_5 < (x19_4.length : Int) := of_decide_eq_true (by first | (with_reducible assumption) | assumption)
                                              obtain ⟨ad236, e236, hx236_0⟩ := Kd.at_bool (Kd.R_reads' HO_19.out).2.2 x22_5 p236 q236
                                              (try rw [← Nbq57.out] at hx236_0)
                                              cases e236
                                              replace p236 := eq_true p236
                                              replace q236 := eq_true q236
                                              go_wp2
                                              go_roundg k5
                                              case measure => have := HJ6.out; have := HJ13.out; have := HJ23.out; have := HK4.out; have := HK5.out; omega
                                              case rel => exact ⟨(x21_5), (wrap64 (x22_5 + 1)), (by first | rfl | (simp; done) | (simp [*]; done)), (by first | rfl | (simp; done) | (simp [*]; done)), H', ⟨by have := HJ6.out; have := HJ13.out; have := HJ23.out; have := HK4.out; have := HK5.out; omega⟩, ⟨by (with_reducible repeat (first | apply Kd.V_alloc | apply Kd.V_drewN | apply Kd.V_drew)); exact HO_1.out⟩, ⟨by (with_reducible repeat (first | apply Kd.R_alloc | apply Kd.R_drewN | apply Kd.R_drew)); exact HO_13.out⟩, ⟨by (with_reducible repeat (first | apply Kd.R_alloc | apply Kd.R_drewN | apply Kd.R_drew)); exact HO_19.out⟩, ⟨by (with_reducible repeat (first | refine blk_drewN ?_ _ | refine blk_drew ?_ | refine blk_alloc ?_ _)); exact BK215.out⟩, ⟨by repeat (first | (with_reducible first | exact HB.out | apply below_alloc | apply pw_below_drewN | apply below_drew1 | refine below_set ?_ GE215.out) | exact HB.out)⟩⟩
                                          · rw [if_neg c56] at H
                                            exact absurd H (by simp)
                                        · rw [if_neg c55] at H
                                          exact absurd H (by simp)
                                      · rw [if_neg c54] at H
                                        have c54b0 : decide (x22_5 < (l1.length : Int)) = false := decide_eq_false c54
                                        clear c54
                                        by_cases c66 : x21_5 = (t223.length : Int)
                                        · rw [if_pos c66] at H
                                          have c66b0 : (x21_5 == (t223.length : Int)) = true := beq_iff_eq.mpr c66
                                          have c66b1 : (x21_5 != (t223.length : Int)) = false := bne_eq_false_iff_eq.mpr c66
                                          clear c66
                                          replace H := Option.bind_eq_some_iff.mp H
                                          obtain ⟨⟨t238, t241⟩, A670, H⟩ := H
                                          replace H : (if t241 = 0 then (twoslotlaw07_VectorBumps.l2 k5 l2 t238 l1 0 a0_0 a0_1 a0_2 a0_3) else (some true)) = some r := H
                                          have A67 := Aside0.mk A670
                                          clear A670
                                          by_cases c68 : t241 = 0
                                          · rw [if_pos c68] at H
                                            have c68b0 : (t241 == 0) = true := beq_iff_eq.mpr c68
                                            have c68b1 : (t241 != 0) = false := bne_eq_false_iff_eq.mpr c68
                                            clear c68
                                            have H' := Aside0.mk H
                                            clear H
                                            obtain ⟨Ao69, co69, eo69⟩ := Kd.R_slice HO_13.out
                                            subst eo69
                                            have hcz70_0 : wr.cell? ⟨gb215, 0, none⟩ = some (.int .i64 a0_0) := (blk_cell BK215.out 0).trans rfl
                                            have hcz70_1 : wr.cell? ⟨gb215, 1, none⟩ = some (.int .i64 a0_1) := (blk_cell BK215.out 1).trans rfl
                                            have hcz70_2 : wr.cell? ⟨gb215, 2, none⟩ = some (.int .i64 a0_2) := (blk_cell BK215.out 2).trans rfl
                                            have hcz70_3 : wr.cell? ⟨gb215, 3, none⟩ = some (.int .i64 a0_3) := (blk_cell BK215.out 3).trans rfl
                                            have hfz70_0 := blk_frozen BK215.out 0
                                            have hfz70_1 := blk_frozen BK215.out 1
                                            have hfz70_2 := blk_frozen BK215.out 2
                                            have hfz70_3 := blk_frozen BK215.out 3
                                            go_wp2_with (first | ((with_reducible refine gate_callee (f := 15) rfl ?_); refine goesL_ (some 172) rfl rfl Try.func15 (by kernel_rfl) rfl #[.agg #[.int .i64 a0_0, .int .i64 a0_1, .int .i64 a0_2, .int .i64 a0_3], .slice A1 l1.length c1, .slice A2 l2.length c2] rfl (by (try simp only [List.map_toArray, List.map_cons, List.map_nil]); first | done | rfl | (simp only [List.length_drop, List.length_take]; rfl)) ?_; (with_reducible refine (vector_Unlike.calls k5 a0_0 a0_1 a0_2 a0_3 _ _ l1 _ _ l2 t238 t241 _ ?side1 ?side2 ?side3 ?side4 A67.out).mono ?_); (case side1 => repeat (first | exact (Kd.V_reads' HO_1.out).2.2 | (with_reducible refine Kd.C_alloc ?_ _) | (with_reducible refine Kd.C_drewN ?_ _) | (with_reducible refine Kd.C_drew ?_))); (case side2 => exact (Kd.V_reads' HO_1.out).2.1); (case side3 => repeat (first | exact (Kd.C_below HR2.out HB.out) | (with_reducible refine Kd.C_alloc ?_ _) | (with_reducible refine Kd.C_drewN ?_ _) | (with_reducible refine Kd.C_drew ?_))); (case side4 => exact HC2.out); rintro e w71 ⟨v239, rfl, ho0, hb⟩; refine ⟨_, rfl, ?_⟩; have n0_ := Aside0.mk (Kd.V_elder' (by (with_reducible repeat (first | apply Kd.V_alloc | apply Kd.V_drewN | apply Kd.V_drew)); exact HO_1.out) (Kd.R_base ho0) hb); have n1_ := Aside0.mk (Kd.R_elder' (by (with_reducible repeat (first | apply Kd.R_alloc | apply Kd.R_drewN | apply Kd.R_drew)); exact HO_13.out) (Kd.R_base ho0) hb); have n2_ := Aside0.mk (Kd.R_below (by (with_reducible repeat (first | apply Kd.R_alloc | apply Kd.R_drewN | apply Kd.R_drew)); exact HO_19.out) hb); have n3_ := Aside0.mk (Kd.R_lower (Kd.R_new' (Kd.R_newM (M := fun k_ => (w.heap.size ≤ k_)) ho0 (below_size (by repeat (first | (with_reducible first | exact HB.out | apply below_alloc | apply pw_below_drewN | apply below_drew1 | refine below_set ?_ GE215.out) | exact HB.out))) (fun k_ h_ => h_)) (Kd.R_lt (by (with_reducible repeat (first | apply Kd.R_alloc | apply Kd.R_drewN | apply Kd.R_drew)); exact HO_13.out))) (below_size (by repeat (first | (with_reducible first | exact HB.out | apply below_alloc | apply pw_below_drewN | apply below_drew1 | refine below_set ?_ GE215.out) | exact HB.out)))); have n4_ := Aside0.mk (blk_below (g := gb215) (o := .cells #[.int .i64 a0_0, .int .i64 a0_1, .int .i64 a0_2, .int .i64 a0_3] 24 (0, 0)) (by (with_reducible repeat (first | refine blk_drewN ?_ _ | refine blk_drew ?_ | refine blk_alloc ?_ _)); exact BK215.out) hb); have n5_ := Aside0.mk (below_step (by repeat (first | (with_reducible first | exact HB.out | apply below_alloc | apply pw_below_drewN | apply below_drew1 | refine below_set ?_ GE215.out) | exact HB.out)) hb); clear HO_1; clear HO_13; clear HO_19; clear BK215; clear HB; have HO_1 := n0_; have HO_13 := n1_; have HO_19 := n2_; have HO240 := n3_; have BK215 := n4_; have HB := n5_; clear n0_ n1_ n2_ n3_ n4_ n5_; (try clear hb); (try clear hb2); (try clear hk); (try clear hi); (try clear ho0)))
                                            go_loopg [24, 25] k5 (fun kq v24 v25 w' => ∃ (x24_6 : List Int) (x25_6 : Int), v25 = .int .i64 x25_6 ∧ Aside0 (twoslotlaw07_VectorBumps.l2 kq l2 t238 x24_6 x25_6 a0_0 a0_1 a0_2 a0_3 = some r) ∧ Aside0 (kq ≤ k5) ∧ Aside0 (Kd.R (Kd.int .i64) 3 w' w.heap.size (fun k_ => (w.heap.size ≤ k_)) v239 t238) ∧ Aside0 (Kd.V (Kd.int .i64) 3 w' w.heap.size (fun k_ => (P1_ k_ ∨ w.heap.size ≤ k_) ∧ some k_ ≠ (v239 : Value).ownBlock ∧ k_ ≠ gb215) v24 x24_6) ∧ Aside0 (w'.heap[gb215]? = some (.cells #[.int .i64 a0_0, .int .i64 a0_1, .int .i64 a0_2, .int .i64 a0_3] 24 (0, 0))) ∧ Aside0 (Below w.heap.size w w'))
                                            case atStart => exact ⟨(l1), (0), (by first | rfl | (simp; done) | (simp [*]; done)), H', ⟨Nat.le_refl _⟩, ⟨by (with_reducible repeat (first | apply Kd.R_alloc | apply Kd.R_drewN | apply Kd.R_drew)); exact Kd.R_mono HO240.out (fun _ hk => hk.1.1)⟩, ⟨by (with_reducible repeat (first | apply Kd.V_alloc | apply Kd.V_drewN | apply Kd.V_drew)); exact Kd.V_mono HO_1.out (fun _ hk => ⟨hk.1.1, ⟨hk.2, hk.1.2.2.2⟩⟩)⟩, ⟨by (with_reducible repeat (first | refine blk_drewN ?_ _ | refine blk_drew ?_ | refine blk_alloc ?_ _)); exact BK215.out⟩, ⟨by repeat (first | (with_reducible first | exact HB.out | apply below_alloc | apply pw_below_drewN | apply below_drew1 | refine below_set ?_ GE215.out) | exact HB.out)⟩⟩
                                            case round =>
                                              clear H'
                                              try clear c1
                                              try clear c2
                                              try clear p2
                                              try clear q2
                                              try clear hx2
                                              try clear c3
                                              try clear c4
                                              try clear c5
                                              try clear p5
                                              try clear q5
                                              try clear hx5
                                              try clear hf5
                                              try clear c6
                                              try clear p6
                                              try clear c7
                                              try clear c8
                                              try clear c10
                                              try clear c10b0
                                              try clear c10b1
                                              try clear c11
                                              try clear c11b0
                                              try clear c11b1
                                              try clear c12
                                              try clear c14
                                              try clear c15
                                              try clear c17
                                              try clear c17b0
                                              try clear c17b1
                                              try clear c18
                                              try clear c20
                                              try clear c20b0
                                              try clear c20b1
                                              try clear p23
                                              try clear q23
                                              try clear hx23
                                              try clear c34
                                              try clear c34b0
                                              try clear c34b1
                                              try clear c35
                                              try clear c35b0
                                              try clear c35b1
                                              try clear c36
                                              try clear c36b0
                                              try clear c36b1
                                              try clear c37
                                              try clear c38
                                              try clear c38b0
                                              try clear c38b1
                                              try clear c39
                                              try clear c39b0
                                              try clear c39b1
                                              try clear c40
                                              try clear c40b0
                                              try clear c40b1
                                              try clear c40b2
                                              try clear c41
                                              try clear c41b0
                                              try clear c41b1
                                              try clear c41b2
                                              try clear c42
                                              try clear c43
                                              try clear c43b0
                                              try clear c43b1
                                              try clear c44
                                              try clear c44b0
                                              try clear c44b1
                                              try clear c47
                                              try clear c47b0
                                              try clear c48
                                              try clear c48b0
                                              try clear c49
                                              try clear c49b0
                                              try clear c50
                                              try clear c50b0
                                              try clear p51
                                              try clear q51
                                              try clear hx51
                                              try clear hf51
                                              try clear c54
                                              try clear c54b0
                                              try clear c55
                                              try clear c55b0
                                              try clear c56
                                              try clear c56b0
                                              try clear q57
                                              try clear c58
                                              try clear c59
                                              try clear c59b0
                                              try clear c60
                                              try clear c60b0
                                              try clear c61
                                              try clear c61b0
                                              try clear c62
                                              try clear c62b0
                                              try clear c62b1
                                              try clear p64
                                              try clear c66
                                              try clear c66b0
                                              try clear c66b1
                                              try clear c68
                                              try clear c68b0
                                              try clear c68b1
                                              try clear hcz15_0
                                              try clear hcz15_1
                                              try clear hcz15_2
                                              try clear hcz15_3
                                              try clear hcz25_0
                                              try clear hcz25_1
                                              try clear hcz25_2
                                              try clear hcz25_3
                                              try clear hcz27_0
                                              try clear hcz27_1
                                              try clear hcz27_2
                                              try clear hcz27_3
                                              try clear hcz30_0
                                              try clear hcz30_1
                                              try clear hcz30_2
                                              try clear hcz30_3
                                              try clear hcz32_0
                                              try clear hcz32_1
                                              try clear hcz32_2
                                              try clear hcz32_3
                                              try clear hcz70_0
                                              try clear hcz70_1
                                              try clear hcz70_2
                                              try clear hcz70_3
                                              try clear hfz15_0
                                              try clear hfz15_1
                                              try clear hfz15_2
                                              try clear hfz15_3
                                              try clear hfz25_0
                                              try clear hfz25_1
                                              try clear hfz25_2
                                              try clear hfz25_3
                                              try clear hfz27_0
                                              try clear hfz27_1
                                              try clear hfz27_2
                                              try clear hfz27_3
                                              try clear hfz30_0
                                              try clear hfz30_1
                                              try clear hfz30_2
                                              try clear hfz30_3
                                              try clear hfz32_0
                                              try clear hfz32_1
                                              try clear hfz32_2
                                              try clear hfz32_3
                                              try clear hfz70_0
                                              try clear hfz70_1
                                              try clear hfz70_2
                                              try clear hfz70_3
                                              try clear hx234_0
                                              try clear hx236_0
                                              try clear hx237_0
                                              try clear hx51_0
                                              try clear p2
                                              try clear p23
                                              try clear p234
                                              try clear p236
                                              try clear p237
                                              try clear p5
                                              try clear p51
                                              try clear p6
                                              try clear q2
                                              try clear q23
                                              try clear q234
                                              try clear q236
                                              try clear q237
                                              try clear q5
                                              try clear q51
                                              obtain ⟨x24_6, x25_6, rfl, HA, HK6, HO_23, HO_24, BK215, HB⟩ := hrel
                                              cases gk with
                                              | zero => exact absurd HA.out (by simp [twoslotlaw07_VectorBumps.l2])
                                              | succ k6 =>
                                                have H := HA.out
                                                clear HA
                                                simp only [twoslotlaw07_VectorBumps.l2] at H
                                                by_cases c72 : x25_6 < (t238.length : Int)
                                                · rw [if_pos c72] at H
                                                  have c72b0 : decide (x25_6 < (t238.length : Int)) = true := decide_eq_true c72
                                                  clear c72
                                                  by_cases c73 : 0 ≤ x25_6
                                                  · rw [if_pos c73] at H
                                                    have c73b0 : decide (0 ≤ x25_6) = true := decide_eq_true c73
                                                    clear c73
                                                    obtain ⟨y243, hy243⟩ : ∃ y_ : List Int, y_ = (([rd t238 x25_6] : List Int)) := ⟨_, rfl⟩
                                                    replace H : (if 0 ≤ (rd t238 x25_6) then (if (rd t238 x25_6) < (l2.length : Int) then ((vector_Bump.f k6 a0_0 a0_1 a0_2 a0_3 x24_6 y243 (rd l2 (rd t238 x25_6))).bind fun bt248 => (if bt248.2 = 0 then (twoslotlaw07_VectorBumps.l2 k6 l2 t238 bt248.1 (wrap64 (x25_6 + 1)) a0_0 a0_1 a0_2 a0_3) else (none))) else (none)) else (none)) = some r := by first | (rw [hy243]; with_reducible exact H) | (have H2_ := (Option.bind_some _ _).symm.trans H; rw [hy243]; with_reducible exact H2_) | (have H2_ := (Option.bind_some _ _).symm.trans H; with_reducible exact H2_) | with_reducible exact H | (rw [hy243]; exact H) | exact H
                                                    have Ny243 := Aside0.mk hy243
                                                    clear hy243
                                                    by_cases c74 : 0 ≤ (rd t238 x25_6)
                                                    · rw [if_pos c74] at H
                                                      have c74b0 : decide (0 ≤ (rd t238 x25_6)) = true := decide_eq_true c74
                                                      clear c74
                                                      by_cases c75 : (rd t238 x25_6) < (l2.length : Int)
                                                      · rw [if_pos c75] at H
                                                        have c75b0 : decide ((rd t238 x25_6) < (l2.length : Int)) = true := decide_eq_true c75
                                                        clear c75
                                                        replace H := Option.bind_eq_some_iff.mp H
                                                        obtain ⟨⟨t248, t251⟩, A760, H⟩ := H
                                                        replace H : (if t251 = 0 then (twoslotlaw07_VectorBumps.l2 k6 l2 t238 t248 (wrap64 (x25_6 + 1)) a0_0 a0_1 a0_2 a0_3) else (none)) = some r := H
                                                        have A76 := Aside0.mk A760
                                                        clear A760
                                                        by_cases c77 : t251 = 0
                                                        · rw [if_pos c77] at H
                                                          have c77b0 : (t251 == 0) = true := beq_iff_eq.mpr c77
                                                          have c77b1 : (t251 != 0) = false := bne_eq_false_iff_eq.mpr c77
                                                          clear c77
                                                          have H' := Aside0.mk H
                                                          clear H
                                                          obtain ⟨Ao78, co78, eo78⟩ := Kd.R_slice HO_23.out
                                                          subst eo78
                                                          try go_wp2
                                                          have n0_ := Aside0.mk (Kd.R_drew HO_23.out)
                                                          have n1_ := Aside0.mk (Kd.V_drew HO_24.out)
                                                          have n2_ := Aside0.mk (blk_drew BK215.out)
                                                          have n3_ := Aside0.mk (below_drew1 HB.out)
                                                          clear HO_23
                                                          clear HO_24
                                                          clear BK215
                                                          clear HB
                                                          have HO_23 := n0_
                                                          have HO_24 := n1_
                                                          have BK215 := n2_
                                                          have HB := n3_
                                                          clear n0_ n1_ n2_ n3_
                                                          have p242 : 0 ≤ (x25_6 : Int) := of_decide_eq_true (by first | (with_reducible assumption) | assumption)
                                                          have q242 : x25_6 < (t238.length : Int) := of_decide_eq_true (by first | (with_reducible assumption) | assumption)
                                                          obtain ⟨ad242, e242, hx242_0⟩ := Kd.at_int (Kd.R_reads' HO_23.out).2.2 x25_6 p242 q242
                                                          cases e242
                                                          replace p242 := eq_true p242
                                                          replace q242 := eq_true q242
                                                          have p246 : 0 ≤ (x25_6 : Int) := of_decide_eq_true (by first | (with_reducible assumption) | assumption)
                                                          have q246 : x25_6 < (t238.length : Int) := of_decide_eq_true (by first | (with_reducible assumption) | assumption)
                                                          obtain ⟨ad246, e246, hx246_0⟩ := Kd.at_int (Kd.R_reads' HO_23.out).2.2 x25_6 p246 q246
                                                          obtain rfl : ad242 = ad246 := (by injection e246)
                                                          replace p246 := eq_true p246
                                                          replace q246 := eq_true q246
                                                          have p247 : 0 ≤ ((rd t238 x25_6) : Int) := of_decide_eq_true (by first | (with_reducible assumption) | assumption)
                                                          have q247 : (rd t238 x25_6) < (l2.length : Int) := of_decide_eq_true (by first | (with_reducible assumption) | assumption)
                                                          obtain ⟨ad247, e247, hx247_0⟩ := Kd.at_int HR2.out (rd t238 x25_6) p247 q247
                                                          have hw247_0 := hx247_0
                                                          cases e247
                                                          replace hx247_0 := (HB.out.cell (World.block_lt_of_cell? w _ hx247_0)).trans hx247_0
                                                          replace p247 := eq_true p247
                                                          replace q247 := eq_true q247
                                                          refine start_ (n := 20) (S := fun w' => w'.cell? ⟨gb215, 0, none⟩ = some (.int .i64 a0_0) ∧ w'.cell? ⟨gb215, 1, none⟩ = some (.int .i64 a0_1) ∧ w'.cell? ⟨gb215, 2, none⟩ = some (.int .i64 a0_2) ∧ w'.cell? ⟨gb215, 3, none⟩ = some (.int .i64 a0_3) ∧ w'.cell? (ad242.add (x25_6).toNat) = some (.int .i64 (rd t238 x25_6)) ∧ w'.cell? (ad242.add (x25_6).toNat) = some (.int .i64 (rd t238 x25_6)) ∧ w'.cell? (ad247.add ((rd t238 x25_6)).toNat) = some (.int .i64 (rd l2 (rd t238 x25_6)))) (ds := []) #[false, false, false, false, false, false, false, false, false, false, false, false, false, false, false, false, false, false, false, false] (by kernel_rfl) rfl rfl ⟨(blk_cell BK215.out 0).trans rfl, (blk_cell BK215.out 1).trans rfl, (blk_cell BK215.out 2).trans rfl, (blk_cell BK215.out 3).trans rfl, hx242_0, hx246_0, ((HB.out.cell (World.block_lt_of_cell? w _ hw247_0)).trans hw247_0)⟩ (fun hHeld => ?_); refine with_tabW twoslotlaw07_VectorBumps.tab39 twoslotlaw07_VectorBumps.bits39 (fun HT_ HW_ => ?_)
                                                          generalize wr.drew = w79 at HO_23 HO_24 BK215 HB hx242_0 hx246_0 hx247_0 hHeld ⊢
                                                          refine pure_ (i := 1) (N := some 186) (v := ?_) (a' := ?_) #[false, true, false, false, false, false, false, false, false, false, false, false, false, false, false, false, false, false, false, false] rfl rfl (any_of HT_.out (by kernel_rfl)) (fun _ _ _ h => h) (Or.inl ⟨by rfl, ?_⟩) ?_ ?_
                                                          rotate_left
                                                          · intro w'
                                                            go_simp
                                                            with_reducible rfl
                                                          rotate_left
                                                          · simp only [Act.put, List.setIfInBounds_toArray, List.set_cons_zero, List.set_cons_succ, i64_w, i32_w]
                                                            rfl
                                                          refine pure_ (i := 2) (N := some 187) (v := ?_) (a' := ?_) #[false, true, true, false, false, false, false, false, false, false, false, false, false, false, false, false, false, false, false, false] rfl rfl (any_of HT_.out (by kernel_rfl)) (fun _ _ _ h => h) (Or.inl ⟨by rfl, ?_⟩) ?_ ?_
                                                          rotate_left
                                                          · intro w'
                                                            go_simp
                                                            with_reducible rfl
                                                          rotate_left
                                                          · simp only [Act.put, List.setIfInBounds_toArray, List.set_cons_zero, List.set_cons_succ, i64_w, i32_w]
                                                            rfl
                                                          refine pure_ (i := 3) (N := some 188) (v := ?_) (a' := ?_) #[false, true, true, true, false, false, false, false, false, false, false, false, false, false, false, false, false, false, false, false] rfl rfl (any_of HT_.out (by kernel_rfl)) (fun _ _ _ h => h) (Or.inl ⟨by rfl, ?_⟩) ?_ ?_
                                                          rotate_left
                                                          · intro w'
                                                            go_simp
                                                            with_reducible rfl
                                                          rotate_left
                                                          · simp only [Act.put, List.setIfInBounds_toArray, List.set_cons_zero, List.set_cons_succ, i64_w, i32_w]
                                                            rfl
                                                          refine pure_ (i := 4) (N := some 189) (v := ?_) (a' := ?_) #[false, true, true, true, true, false, false, false, false, false, false, false, false, false, false, false, false, false, false, false] rfl rfl (any_of HT_.out (by kernel_rfl)) (fun _ _ _ h => h) (Or.inl ⟨by rfl, ?_⟩) ?_ ?_
                                                          rotate_left
                                                          · intro w'
                                                            go_simp
                                                            with_reducible rfl
                                                          rotate_left
                                                          · simp only [Act.put, List.setIfInBounds_toArray, List.set_cons_zero, List.set_cons_succ, i64_w, i32_w]
                                                            rfl
                                                          refine pure_ (i := 7) (N := some 192) (v := ?_) (a' := ?_) #[false, true, true, true, true, false, false, true, false, false, false, false, false, false, false, false, false, false, false, false] rfl rfl (any_of HT_.out (by kernel_rfl)) (fun _ _ _ h => h) (Or.inl ⟨by rfl, ?_⟩) ?_ ?_
                                                          rotate_left
                                                          · intro w'
                                                            go_simp
                                                            with_reducible rfl
                                                          rotate_left
                                                          · simp only [Act.put, List.setIfInBounds_toArray, List.set_cons_zero, List.set_cons_succ, i64_w, i32_w]
                                                            rfl
                                                          refine pure_ (i := 8) (N := some 193) (v := ?_) (a' := ?_) #[false, true, true, true, true, false, false, true, true, false, false, false, false, false, false, false, false, false, false, false] rfl rfl (any_of HT_.out (by kernel_rfl)) (fun _ _ _ h => h) (Or.inl ⟨by rfl, ?_⟩) ?_ ?_
                                                          rotate_left
                                                          · intro w'
                                                            go_simp
                                                            with_reducible rfl
                                                          rotate_left
                                                          · simp only [Act.put, List.setIfInBounds_toArray, List.set_cons_zero, List.set_cons_succ, i64_w, i32_w]
                                                            rfl
                                                          refine pure_ (i := 9) (N := some 194) (v := ?_) (a' := ?_) #[false, true, true, true, true, false, false, true, true, true, false, false, false, false, false, false, false, false, false, false] rfl rfl (any_of HT_.out (by kernel_rfl)) (fun _ _ _ h => h) (Or.inl ⟨by rfl, ?_⟩) ?_ ?_
                                                          rotate_left
                                                          · intro w'
                                                            go_simp
                                                            with_reducible rfl
                                                          rotate_left
                                                          · simp only [Act.put, List.setIfInBounds_toArray, List.set_cons_zero, List.set_cons_succ, i64_w, i32_w]
                                                            rfl
                                                          refine pure_ (i := 10) (N := some 195) (v := ?_) (a' := ?_) #[false, true, true, true, true, false, false, true, true, true, true, false, false, false, false, false, false, false, false, false] rfl rfl (any_of HT_.out (by kernel_rfl)) (fun _ _ _ h => h) (Or.inl ⟨by rfl, ?_⟩) ?_ ?_
                                                          rotate_left
                                                          · intro w'
                                                            go_simp
                                                            with_reducible rfl
                                                          rotate_left
                                                          · simp only [Act.put, List.setIfInBounds_toArray, List.set_cons_zero, List.set_cons_succ, i64_w, i32_w]
                                                            rfl
                                                          refine take_ (i := 0) (N := some 185) (v := ?_) (a' := ?_) #[true, true, true, true, true, false, false, true, true, true, true, false, false, false, false, false, false, false, false, false] rfl rfl (take_ofW HT_.out HW_.out (by kernel_rfl)) (fun _ _ _ h => h) (Or.inl ⟨by rfl, ?_⟩) hHeld ?_ ?_
                                                          rotate_left
                                                          · rintro w' ⟨s0, s1, s2, s3, s4, s5, s6⟩
                                                            go_simp
                                                            with_reducible rfl
                                                          rotate_left
                                                          · simp only [Act.put, List.setIfInBounds_toArray, List.set_cons_zero, List.set_cons_succ, i64_w, i32_w]
                                                            rfl
                                                          refine take_ (i := 5) (N := some 190) (v := ?_) (a' := ?_) #[true, true, true, true, true, true, false, true, true, true, true, false, false, false, false, false, false, false, false, false] rfl rfl (take_ofW HT_.out HW_.out (by kernel_rfl)) (fun _ _ _ h => h) (Or.inl ⟨by rfl, ?_⟩) hHeld ?_ ?_
                                                          rotate_left
                                                          · rintro w' ⟨s0, s1, s2, s3, s4, s5, s6⟩
                                                            go_simp
                                                            with_reducible rfl
                                                          rotate_left
                                                          · simp only [Act.put, List.setIfInBounds_toArray, List.set_cons_zero, List.set_cons_succ, i64_w, i32_w]
                                                            rfl
                                                          refine take_ (i := 11) (N := some 196) (v := ?_) (a' := ?_) #[true, true, true, true, true, true, false, true, true, true, true, true, false, false, false, false, false, false, false, false] rfl rfl (take_ofW HT_.out HW_.out (by kernel_rfl)) (fun _ _ _ h => h) (Or.inl ⟨by rfl, ?_⟩) hHeld ?_ ?_
                                                          rotate_left
                                                          · rintro w' ⟨s0, s1, s2, s3, s4, s5, s6⟩
                                                            go_simp
                                                            with_reducible rfl
                                                          rotate_left
                                                          · simp only [Act.put, List.setIfInBounds_toArray, List.set_cons_zero, List.set_cons_succ, i64_w, i32_w]
                                                            rfl
                                                          refine pure_ (i := 12) (N := some 197) (v := ?_) (a' := ?_) #[true, true, true, true, true, true, false, true, true, true, true, true, true, false, false, false, false, false, false, false] rfl rfl (any_of HT_.out (by kernel_rfl)) (fun _ _ _ h => h) (Or.inl ⟨by rfl, ?_⟩) ?_ ?_
                                                          rotate_left
                                                          · intro w'
                                                            go_simp
                                                            with_reducible rfl
                                                          rotate_left
                                                          · simp only [Act.put, List.setIfInBounds_toArray, List.set_cons_zero, List.set_cons_succ, i64_w, i32_w]
                                                            rfl
                                                          refine take_ (i := 13) (N := some 198) (v := ?_) (a' := ?_) #[true, true, true, true, true, true, false, true, true, true, true, true, true, true, false, false, false, false, false, false] rfl rfl (take_ofW HT_.out HW_.out (by kernel_rfl)) (fun _ _ _ h => h) (Or.inl ⟨by rfl, ?_⟩) hHeld ?_ ?_
                                                          rotate_left
                                                          · rintro w' ⟨s0, s1, s2, s3, s4, s5, s6⟩
                                                            go_simp
                                                            with_reducible rfl
                                                          rotate_left
                                                          · simp only [Act.put, List.setIfInBounds_toArray, List.set_cons_zero, List.set_cons_succ, i64_w, i32_w]
                                                            rfl
                                                          refine one_ (i := 6) (N := some 191) #[true, true, true, true, true, true, true, true, true, true, true, true, true, true, false, false, false, false, false, false] rfl rfl (one_of HT_.out (by kernel_rfl)) (by decide) (fun K hK => ?_)
                                                          refine Kd.R_lit_step (Kd.int .i64) _ 3 ?hg (N := 191) ?hd (xs := ([rd t238 x25_6] : List Int)) (inner := [.int .i64 (rd t238 x25_6)]) (ok := fun _ => True) (okp := fun _ => True) ?hr ?hp (fun _ hk => hk) trivial (Below.refl _ _) (Nat.le_refl _) (by simp) ?_; (case hd => rfl); (case hg => rfl); (case hr => first | (go_simp; done) | (go_simp; rfl)); (case hp => exact (Reps.one (show Kd.M (Kd.int .i64) _ _ _ (rd t238 x25_6) [.int .i64 (rd t238 x25_6)] from rfl) (Reps.none _ _)))
                                                          intro v244 w80 ho81 hb hg_ hnew_
                                                          have HS4_ := (hb.cell (World.block_lt_of_cell? _ _ (hHeld.2.2.2.2.1))).trans (hHeld.2.2.2.2.1)
                                                          have HS5_ := (hb.cell (World.block_lt_of_cell? _ _ (hHeld.2.2.2.2.2.1))).trans (hHeld.2.2.2.2.2.1)
                                                          clear hg_ hnew_
                                                          (first | rw [← Ny243.out] at ho81 | (simp only [Int.reduceToNat] at ho81; rw [← Ny243.out] at ho81))
                                                          have n0_ := Aside0.mk (Kd.R_elder' (by (with_reducible repeat (first | apply Kd.R_alloc | apply Kd.R_drewN | apply Kd.R_drew)); exact HO_23.out) (Kd.R_base ho81) hb)
                                                          have n1_ := Aside0.mk (Kd.V_elder' (by (with_reducible repeat (first | apply Kd.V_alloc | apply Kd.V_drewN | apply Kd.V_drew)); exact HO_24.out) (Kd.R_base ho81) hb)
                                                          have n2_ := Aside0.mk (Kd.R_lower (Kd.R_new' (Kd.R_newM (M := fun k_ => (w.heap.size ≤ k_)) ho81 (below_size (by repeat (first | (with_reducible first | exact HB.out | apply below_alloc | apply pw_below_drewN | apply below_drew1 | refine below_set ?_ GE215.out) | exact HB.out))) (fun k_ h_ => h_)) (Kd.R_lt (by (with_reducible repeat (first | apply Kd.R_alloc | apply Kd.R_drewN | apply Kd.R_drew)); exact HO_23.out))) (below_size (by repeat (first | (with_reducible first | exact HB.out | apply below_alloc | apply pw_below_drewN | apply below_drew1 | refine below_set ?_ GE215.out) | exact HB.out))))
                                                          have n3_ := Aside0.mk (blk_below (g := gb215) (o := .cells #[.int .i64 a0_0, .int .i64 a0_1, .int .i64 a0_2, .int .i64 a0_3] 24 (0, 0)) (by (with_reducible repeat (first | refine blk_drewN ?_ _ | refine blk_drew ?_ | refine blk_alloc ?_ _)); exact BK215.out) hb)
                                                          have n4_ := Aside0.mk (below_step (by repeat (first | (with_reducible first | exact HB.out | apply below_alloc | apply pw_below_drewN | apply below_drew1 | refine below_set ?_ GE215.out) | exact HB.out)) hb)
                                                          clear HO_23
                                                          clear HO_24
                                                          clear BK215
                                                          clear HB
                                                          have HO_23 := n0_
                                                          have HO_24 := n1_
                                                          have HO245 := n2_
                                                          have BK215 := n3_
                                                          have HB := n4_
                                                          clear n0_ n1_ n2_ n3_ n4_
                                                          clear hb ho81
                                                          obtain ⟨Ao82, co82, eo82⟩ := Kd.V_slice HO_24.out
                                                          (first | subst eo82 | (injection eo82 with f1_ f2_ f3_; have f4_ := f1_.symm; have f5_ := f3_.symm; clear f1_ f2_ f3_; subst f4_; subst f5_))
                                                          obtain ⟨Ao83, co83, eo83⟩ := Kd.R_slice HO245.out
                                                          (first | subst eo83 | (injection eo83 with f1_ f2_ f3_; have f4_ := f1_.symm; have f5_ := f3_.symm; clear f1_ f2_ f3_; subst f4_; subst f5_))
                                                          refine hK.out _ _ ⟨(blk_cell BK215.out 0).trans rfl, (blk_cell BK215.out 1).trans rfl, (blk_cell BK215.out 2).trans rfl, (blk_cell BK215.out 3).trans rfl, HS4_, HS5_, ((HB.out.cell (World.block_lt_of_cell? w _ hw247_0)).trans hw247_0)⟩ (fun hHeld => ?_)
                                                          clear hK K
                                                          refine norm_ (a' := ?_) ?_ ?_
                                                          rotate_left
                                                          · show Act.put _ (some 191) _ = _
                                                            simp only [Act.put, List.setIfInBounds_toArray, List.set_cons_zero, List.set_cons_succ, i64_w, i32_w]
                                                            rfl
                                                          refine one_ (i := 14) (N := some 199) #[true, true, true, true, true, true, true, true, true, true, true, true, true, true, true, false, false, false, false, false] rfl rfl (one_of HT_.out (by kernel_rfl)) (by decide) (fun K hK => ?_)
                                                          refine goes_ Try.func12 (by kernel_rfl) rfl #[.agg #[.int .i64 a0_0, .int .i64 a0_1, .int .i64 a0_2, .int .i64 a0_3], .slice Ao82 x24_6.length co82, .slice Ao83 y243.length co83, .int .i64 (rd l2 (rd t238 x25_6))] (by rfl) rfl rfl (by (try simp only [List.map_toArray, List.map_cons, List.map_nil]); first | done | rfl | (simp only [List.length_drop, List.length_take]; rfl)) ?_
                                                          with_reducible refine (vector_Bump.calls k6 a0_0 a0_1 a0_2 a0_3 _ _ x24_6 _ _ y243 (rd l2 (rd t238 x25_6)) t248 t251 _ ?side1 ?side2 ?side3 ?side4 A76.out).mono ?_
                                                          (case side1 => repeat (first | exact (Kd.V_reads' HO_24.out).2.2 | (with_reducible refine Kd.C_alloc ?_ _) | (with_reducible refine Kd.C_drewN ?_ _) | (with_reducible refine Kd.C_drew ?_)))
                                                          (case side2 => exact (Kd.V_reads' HO_24.out).2.1)
                                                          (case side3 => repeat (first | exact (Kd.R_reads' HO245.out).2.2 | (with_reducible refine Kd.C_alloc ?_ _) | (with_reducible refine Kd.C_drewN ?_ _) | (with_reducible refine Kd.C_drew ?_)))
                                                          (case side4 => exact (Kd.R_reads' HO245.out).2.1)
                                                          rintro e w84 ⟨v249, rfl, ho0, hb⟩
                                                          have HS4_ := (hb.cell (World.block_lt_of_cell? _ _ (hHeld.2.2.2.2.1))).trans (hHeld.2.2.2.2.1)
                                                          have HS5_ := (hb.cell (World.block_lt_of_cell? _ _ (hHeld.2.2.2.2.2.1))).trans (hHeld.2.2.2.2.2.1)
                                                          refine ⟨_, rfl, ?_⟩
                                                          have n0_ := Aside0.mk (Kd.R_elder' (by (with_reducible repeat (first | apply Kd.R_alloc | apply Kd.R_drewN | apply Kd.R_drew)); exact HO_23.out) (Kd.R_base ho0) hb)
                                                          have n1_ := Aside0.mk (Kd.V_elder' (by (with_reducible repeat (first | apply Kd.V_alloc | apply Kd.V_drewN | apply Kd.V_drew)); exact HO_24.out) (Kd.R_base ho0) hb)
                                                          have n2_ := Aside0.mk (Kd.R_elder' (by (with_reducible repeat (first | apply Kd.R_alloc | apply Kd.R_drewN | apply Kd.R_drew)); exact HO245.out) (Kd.R_base ho0) hb)
                                                          have n3_ := Aside0.mk (Kd.R_lower (Kd.R_new' (Kd.R_new' (Kd.R_newM (M := fun k_ => (w.heap.size ≤ k_)) ho0 (below_size (by repeat (first | (with_reducible first | exact HB.out | apply below_alloc | apply pw_below_drewN | apply below_drew1 | refine below_set ?_ GE215.out) | exact HB.out))) (fun k_ h_ => h_)) (Kd.R_lt (by (with_reducible repeat (first | apply Kd.R_alloc | apply Kd.R_drewN | apply Kd.R_drew)); exact HO_23.out))) (Kd.R_lt (by (with_reducible repeat (first | apply Kd.R_alloc | apply Kd.R_drewN | apply Kd.R_drew)); exact HO245.out))) (below_size (by repeat (first | (with_reducible first | exact HB.out | apply below_alloc | apply pw_below_drewN | apply below_drew1 | refine below_set ?_ GE215.out) | exact HB.out))))
                                                          have n4_ := Aside0.mk (blk_below (g := gb215) (o := .cells #[.int .i64 a0_0, .int .i64 a0_1, .int .i64 a0_2, .int .i64 a0_3] 24 (0, 0)) (by (with_reducible repeat (first | refine blk_drewN ?_ _ | refine blk_drew ?_ | refine blk_alloc ?_ _)); exact BK215.out) hb)
                                                          have n5_ := Aside0.mk (below_step (by repeat (first | (with_reducible first | exact HB.out | apply below_alloc | apply pw_below_drewN | apply below_drew1 | refine below_set ?_ GE215.out) | exact HB.out)) hb)
                                                          clear HO_23
                                                          clear HO_24
                                                          clear HO245
                                                          clear BK215
                                                          clear HB
                                                          have HO_23 := n0_
                                                          have HO_24 := n1_
                                                          have HO245 := n2_
                                                          have HO250 := n3_
                                                          have BK215 := n4_
                                                          have HB := n5_
                                                          clear n0_ n1_ n2_ n3_ n4_ n5_
                                                          (try clear hb)
                                                          (try clear hb2)
                                                          (try clear hk)
                                                          (try clear hi)
                                                          (try clear ho0)
                                                          refine hK.out _ _ ⟨(blk_cell BK215.out 0).trans rfl, (blk_cell BK215.out 1).trans rfl, (blk_cell BK215.out 2).trans rfl, (blk_cell BK215.out 3).trans rfl, HS4_, HS5_, ((HB.out.cell (World.block_lt_of_cell? w _ hw247_0)).trans hw247_0)⟩ (fun hHeld => ?_)
                                                          clear hK K
                                                          refine norm_ (a' := ?_) ?_ ?_
                                                          rotate_left
                                                          · show Act.put _ (some 199) _ = _
                                                            simp only [Act.put, List.setIfInBounds_toArray, List.set_cons_zero, List.set_cons_succ, i64_w, i32_w]
                                                            rfl
                                                          refine pure_ (i := 15) (N := some 184) (v := ?_) (a' := ?_) #[true, true, true, true, true, true, true, true, true, true, true, true, true, true, true, true, false, false, false, false] rfl rfl (any_of HT_.out (by kernel_rfl)) (fun _ _ _ h => h) (Or.inl ⟨by rfl, ?_⟩) ?_ ?_
                                                          rotate_left
                                                          · intro w'
                                                            go_simp
                                                            with_reducible rfl
                                                          rotate_left
                                                          · simp only [Act.put, List.setIfInBounds_toArray, List.set_cons_zero, List.set_cons_succ, i64_w, i32_w]
                                                            rfl
                                                          refine pure_ (i := 16) (N := some 200) (v := ?_) (a' := ?_) #[true, true, true, true, true, true, true, true, true, true, true, true, true, true, true, true, true, false, false, false] rfl rfl (any_of HT_.out (by kernel_rfl)) (fun _ _ _ h => h) (Or.inl ⟨by rfl, ?_⟩) ?_ ?_
                                                          rotate_left
                                                          · intro w'
                                                            go_simp
                                                            with_reducible rfl
                                                          rotate_left
                                                          · simp only [Act.put, List.setIfInBounds_toArray, List.set_cons_zero, List.set_cons_succ, i64_w, i32_w]
                                                            rfl
                                                          refine pure_ (i := 17) (N := some 201) (v := ?_) (a' := ?_) #[true, true, true, true, true, true, true, true, true, true, true, true, true, true, true, true, true, true, false, false] rfl rfl (any_of HT_.out (by kernel_rfl)) (fun _ _ _ h => h) (Or.inl ⟨by rfl, ?_⟩) ?_ ?_
                                                          rotate_left
                                                          · intro w'
                                                            go_simp
                                                            with_reducible rfl
                                                          rotate_left
                                                          · simp only [Act.put, List.setIfInBounds_toArray, List.set_cons_zero, List.set_cons_succ, i64_w, i32_w]
                                                            rfl
                                                          refine pure_ (i := 18) (N := some 26) (v := ?_) (a' := ?_) #[true, true, true, true, true, true, true, true, true, true, true, true, true, true, true, true, true, true, true, false] rfl rfl (any_of HT_.out (by kernel_rfl)) (fun _ _ _ h => h) (Or.inl ⟨by rfl, ?_⟩) ?_ ?_
                                                          rotate_left
                                                          · intro w'
                                                            go_simp
                                                            with_reducible rfl
                                                          rotate_left
                                                          · simp only [Act.put, List.setIfInBounds_toArray, List.set_cons_zero, List.set_cons_succ, i64_w, i32_w]
                                                            rfl
                                                          refine pure_ (i := 19) (N := some 27) (v := ?_) (a' := ?_) #[true, true, true, true, true, true, true, true, true, true, true, true, true, true, true, true, true, true, true, true] rfl rfl (any_of HT_.out (by kernel_rfl)) (fun _ _ _ h => h) (Or.inl ⟨by rfl, ?_⟩) ?_ ?_
                                                          rotate_left
                                                          · intro w'
                                                            go_simp
                                                            with_reducible rfl
                                                          rotate_left
                                                          · simp only [Act.put, List.setIfInBounds_toArray, List.set_cons_zero, List.set_cons_succ, i64_w, i32_w]
                                                            rfl
                                                          refine done_ (done_of HT_.out (by kernel_rfl)) ?_
                                                          try go_wp2
                                                          go_roundg k6
                                                          case measure => have := HJ6.out; have := HJ13.out; have := HJ23.out; have := HK4.out; have := HK5.out; have := HK6.out; omega
                                                          case rel => exact ⟨(t248), (wrap64 (x25_6 + 1)), (by first | rfl | (simp; done) | (simp [*]; done)), H', ⟨by have := HJ6.out; have := HJ13.out; have := HJ23.out; have := HK4.out; have := HK5.out; have := HK6.out; omega⟩, ⟨by (with_reducible repeat (first | apply Kd.R_alloc | apply Kd.R_drewN | apply Kd.R_drew)); exact Kd.R_mono HO_23.out (fun _ hk => hk.1.1)⟩, ⟨by (with_reducible repeat (first | apply Kd.V_alloc | apply Kd.V_drewN | apply Kd.V_drew)); refine Kd.V_mono (Kd.R_V (Kd.R_types HO250.out BK215.out (by decide))) (fun k_ hk => ?_); exact ⟨.inr hk.1.1.1.1, hk.1.1.2, hk.2⟩⟩, ⟨by (with_reducible repeat (first | refine blk_drewN ?_ _ | refine blk_drew ?_ | refine blk_alloc ?_ _)); exact BK215.out⟩, ⟨by repeat (first | (with_reducible first | exact HB.out | apply below_alloc | apply pw_below_drewN | apply below_drew1 | refine below_set ?_ GE215.out) | exact HB.out)⟩⟩
                                                        · rw [if_neg c77] at H
                                                          exact absurd H (by simp)
                                                      · rw [if_neg c75] at H
                                                        exact absurd H (by simp)
                                                    · rw [if_neg c74] at H
                                                      exact absurd H (by simp)
                                                  · rw [if_neg c73] at H
                                                    exact absurd H (by simp)
                                                · rw [if_neg c72] at H
                                                  have c72b0 : decide (x25_6 < (t238.length : Int)) = false := decide_eq_false c72
                                                  clear c72
                                                  replace H := Option.bind_eq_some_iff.mp H
                                                  obtain ⟨t252, A850, H⟩ := H
                                                  replace H : (some t252) = some r := H
                                                  have A85 := Aside0.mk A850
                                                  clear A850
                                                  obtain rfl := Option.some.inj H
                                                  obtain ⟨Ao86, co86, eo86⟩ := Kd.R_slice HO_23.out
                                                  subst eo86
                                                  obtain ⟨Ao87, co87, eo87⟩ := Kd.V_slice HO_24.out
                                                  subst eo87
                                                  go_wp2_with (first | ((with_reducible refine gate_callee (f := 20) rfl ?_); refine goesL_ (some 207) rfl rfl Try.func20 (by kernel_rfl) rfl #[.slice Ao87 x24_6.length co87, .slice A2 l2.length c2] rfl (by (try simp only [List.map_toArray, List.map_cons, List.map_nil]); first | done | rfl | (simp only [List.length_drop, List.length_take]; rfl)) ?_; (with_reducible refine (twoslotref07_Same.calls k6 _ _ x24_6 _ _ l2 t252 _ ?side1 ?side2 ?side3 ?side4 A85.out).mono ?_); (case side1 => repeat (first | exact (Kd.V_reads' HO_24.out).2.2 | (with_reducible refine Kd.C_alloc ?_ _) | (with_reducible refine Kd.C_drewN ?_ _) | (with_reducible refine Kd.C_drew ?_))); (case side2 => exact (Kd.V_reads' HO_24.out).2.1); (case side3 => repeat (first | exact (Kd.C_below HR2.out HB.out) | (with_reducible refine Kd.C_alloc ?_ _) | (with_reducible refine Kd.C_drewN ?_ _) | (with_reducible refine Kd.C_drew ?_))); (case side4 => exact HC2.out); rintro e w' ⟨rfl, ⟨nd, rfl⟩⟩; refine ⟨_, rfl, ?_⟩))
                                                  go_ret
                                                  exact ⟨by first | rfl | (simp [errW_none, errW_some] <;> rfl) | (simp [*, errW_none, errW_some] <;> rfl), by repeat (first | (with_reducible first | exact HB.out | apply below_alloc | apply pw_below_drewN | apply below_drew1 | refine below_set ?_ GE215.out) | exact HB.out)⟩
                                          · rw [if_neg c68] at H
                                            have c68b0 : (t241 == 0) = false := beq_eq_false_iff_ne.mpr c68
                                            have c68b1 : (t241 != 0) = true := bne_iff_ne.mpr c68
                                            obtain rfl := Option.some.inj H
                                            obtain ⟨Ao88, co88, eo88⟩ := Kd.R_slice HO_13.out
                                            subst eo88
                                            have hcz89_0 : wr.cell? ⟨gb215, 0, none⟩ = some (.int .i64 a0_0) := (blk_cell BK215.out 0).trans rfl
                                            have hcz89_1 : wr.cell? ⟨gb215, 1, none⟩ = some (.int .i64 a0_1) := (blk_cell BK215.out 1).trans rfl
                                            have hcz89_2 : wr.cell? ⟨gb215, 2, none⟩ = some (.int .i64 a0_2) := (blk_cell BK215.out 2).trans rfl
                                            have hcz89_3 : wr.cell? ⟨gb215, 3, none⟩ = some (.int .i64 a0_3) := (blk_cell BK215.out 3).trans rfl
                                            have hfz89_0 := blk_frozen BK215.out 0
                                            have hfz89_1 := blk_frozen BK215.out 1
                                            have hfz89_2 := blk_frozen BK215.out 2
                                            have hfz89_3 := blk_frozen BK215.out 3
                                            go_wp2_with (first | ((with_reducible refine gate_callee (f := 15) rfl ?_); refine goesL_ (some 172) rfl rfl Try.func15 (by kernel_rfl) rfl #[.agg #[.int .i64 a0_0, .int .i64 a0_1, .int .i64 a0_2, .int .i64 a0_3], .slice A1 l1.length c1, .slice A2 l2.length c2] rfl (by (try simp only [List.map_toArray, List.map_cons, List.map_nil]); first | done | rfl | (simp only [List.length_drop, List.length_take]; rfl)) ?_; (with_reducible refine (vector_Unlike.calls k5 a0_0 a0_1 a0_2 a0_3 _ _ l1 _ _ l2 t238 t241 _ ?side1 ?side2 ?side3 ?side4 A67.out).mono ?_); (case side1 => repeat (first | exact (Kd.V_reads' HO_1.out).2.2 | (with_reducible refine Kd.C_alloc ?_ _) | (with_reducible refine Kd.C_drewN ?_ _) | (with_reducible refine Kd.C_drew ?_))); (case side2 => exact (Kd.V_reads' HO_1.out).2.1); (case side3 => repeat (first | exact (Kd.C_below HR2.out HB.out) | (with_reducible refine Kd.C_alloc ?_ _) | (with_reducible refine Kd.C_drewN ?_ _) | (with_reducible refine Kd.C_drew ?_))); (case side4 => exact HC2.out); rintro e w90 ⟨v239, rfl, ho0, hb⟩; refine ⟨_, rfl, ?_⟩; have n0_ := Aside0.mk (Kd.V_elder' (by (with_reducible repeat (first | apply Kd.V_alloc | apply Kd.V_drewN | apply Kd.V_drew)); exact HO_1.out) (Kd.R_base ho0) hb); have n1_ := Aside0.mk (Kd.R_elder' (by (with_reducible repeat (first | apply Kd.R_alloc | apply Kd.R_drewN | apply Kd.R_drew)); exact HO_13.out) (Kd.R_base ho0) hb); have n2_ := Aside0.mk (Kd.R_below (by (with_reducible repeat (first | apply Kd.R_alloc | apply Kd.R_drewN | apply Kd.R_drew)); exact HO_19.out) hb); have n3_ := Aside0.mk (Kd.R_lower (Kd.R_new' (Kd.R_newM (M := fun k_ => (w.heap.size ≤ k_)) ho0 (below_size (by repeat (first | (with_reducible first | exact HB.out | apply below_alloc | apply pw_below_drewN | apply below_drew1 | refine below_set ?_ GE215.out) | exact HB.out))) (fun k_ h_ => h_)) (Kd.R_lt (by (with_reducible repeat (first | apply Kd.R_alloc | apply Kd.R_drewN | apply Kd.R_drew)); exact HO_13.out))) (below_size (by repeat (first | (with_reducible first | exact HB.out | apply below_alloc | apply pw_below_drewN | apply below_drew1 | refine below_set ?_ GE215.out) | exact HB.out)))); have n4_ := Aside0.mk (blk_below (g := gb215) (o := .cells #[.int .i64 a0_0, .int .i64 a0_1, .int .i64 a0_2, .int .i64 a0_3] 24 (0, 0)) (by (with_reducible repeat (first | refine blk_drewN ?_ _ | refine blk_drew ?_ | refine blk_alloc ?_ _)); exact BK215.out) hb); have n5_ := Aside0.mk (below_step (by repeat (first | (with_reducible first | exact HB.out | apply below_alloc | apply pw_below_drewN | apply below_drew1 | refine below_set ?_ GE215.out) | exact HB.out)) hb); clear HO_1; clear HO_13; clear HO_19; clear BK215; clear HB; have HO_1 := n0_; have HO_13 := n1_; have HO_19 := n2_; have HO240 := n3_; have BK215 := n4_; have HB := n5_; clear n0_ n1_ n2_ n3_ n4_ n5_; (try clear hb); (try clear hb2); (try clear hk); (try clear hi); (try clear ho0)))
                                            go_ret
                                            exact ⟨by first | rfl | (simp [errW_none, errW_some] <;> rfl) | (simp [*, errW_none, errW_some] <;> rfl), by repeat (first | (with_reducible first | exact HB.out | apply below_alloc | apply pw_below_drewN | apply below_drew1 | refine below_set ?_ GE215.out) | exact HB.out)⟩
                                        · rw [if_neg c66] at H
                                          exact absurd H (by simp)
                          · rw [if_neg c44] at H
                            exact absurd H (by simp)
                        · rw [if_neg c43] at H
                          exact absurd H (by simp)
                · rw [if_neg c20] at H
                  have c20b0 : (t222 == 0) = false := beq_eq_false_iff_ne.mpr c20
                  have c20b1 : (t222 != 0) = true := bne_iff_ne.mpr c20
                  obtain rfl := Option.some.inj H
                  have hcz91_0 : wc.cell? ⟨gb215, 0, none⟩ = some (.int .i64 a0_0) := (blk_cell BK215.out 0).trans rfl
                  have hcz91_1 : wc.cell? ⟨gb215, 1, none⟩ = some (.int .i64 a0_1) := (blk_cell BK215.out 1).trans rfl
                  have hcz91_2 : wc.cell? ⟨gb215, 2, none⟩ = some (.int .i64 a0_2) := (blk_cell BK215.out 2).trans rfl
                  have hcz91_3 : wc.cell? ⟨gb215, 3, none⟩ = some (.int .i64 a0_3) := (blk_cell BK215.out 3).trans rfl
                  have hfz91_0 := blk_frozen BK215.out 0
                  have hfz91_1 := blk_frozen BK215.out 1
                  have hfz91_2 := blk_frozen BK215.out 2
                  have hfz91_3 := blk_frozen BK215.out 3
                  go_wp2_with (first | ((with_reducible refine gate_callee (f := 12) rfl ?_); refine goesL_ (some 62) rfl rfl Try.func12 (by kernel_rfl) rfl #[.agg #[.int .i64 a0_0, .int .i64 a0_1, .int .i64 a0_2, .int .i64 a0_3], .slice A1 l1.length c1, .slice A3 l3.length c3, .int .i64 (wrap64 (t217 + 1))] rfl (by (try simp only [List.map_toArray, List.map_cons, List.map_nil]); first | done | rfl | (simp only [List.length_drop, List.length_take]; rfl)) ?_; (with_reducible refine (vector_Bump.calls kj13 a0_0 a0_1 a0_2 a0_3 _ _ l1 _ _ l3 (wrap64 (t217 + 1)) t219 t222 _ ?side1 ?side2 ?side3 ?side4 A19.out).mono ?_); (case side1 => repeat (first | exact (Kd.V_reads' HO_1.out).2.2 | (with_reducible refine Kd.C_alloc ?_ _) | (with_reducible refine Kd.C_drewN ?_ _) | (with_reducible refine Kd.C_drew ?_))); (case side2 => exact (Kd.V_reads' HO_1.out).2.1); (case side3 => repeat (first | exact (Kd.C_below HR3.out HB.out) | (with_reducible refine Kd.C_alloc ?_ _) | (with_reducible refine Kd.C_drewN ?_ _) | (with_reducible refine Kd.C_drew ?_))); (case side4 => exact HC3.out); rintro e w92 ⟨v220, rfl, ho0, hb⟩; refine ⟨_, rfl, ?_⟩; have n0_ := Aside0.mk (Kd.V_elder' (by (with_reducible repeat (first | apply Kd.V_alloc | apply Kd.V_drewN | apply Kd.V_drew)); exact HO_1.out) (Kd.R_base ho0) hb); have n1_ := Aside0.mk (Kd.R_lower (Kd.R_newM (M := fun k_ => (w.heap.size ≤ k_)) ho0 (below_size (by repeat (first | (with_reducible first | exact HB.out | apply below_alloc | apply pw_below_drewN | apply below_drew1 | refine below_set ?_ GE215.out) | exact HB.out))) (fun k_ h_ => h_)) (below_size (by repeat (first | (with_reducible first | exact HB.out | apply below_alloc | apply pw_below_drewN | apply below_drew1 | refine below_set ?_ GE215.out) | exact HB.out)))); have n2_ := Aside0.mk (blk_below (g := gb215) (o := .cells #[.int .i64 a0_0, .int .i64 a0_1, .int .i64 a0_2, .int .i64 a0_3] 24 (0, 0)) (by (with_reducible repeat (first | refine blk_drewN ?_ _ | refine blk_drew ?_ | refine blk_alloc ?_ _)); exact BK215.out) hb); have n3_ := Aside0.mk (below_step (by repeat (first | (with_reducible first | exact HB.out | apply below_alloc | apply pw_below_drewN | apply below_drew1 | refine below_set ?_ GE215.out) | exact HB.out)) hb); clear HO_1; clear BK215; clear HB; have HO_1 := n0_; have HO221 := n1_; have BK215 := n2_; have HB := n3_; clear n0_ n1_ n2_ n3_; (try clear hb); (try clear hb2); (try clear hk); (try clear hi); (try clear ho0); obtain ⟨Ao93, co93, eo93⟩ := Kd.R_slice HO221.out; subst eo93))
                  go_ret
                  exact ⟨by first | rfl | (simp [errW_none, errW_some] <;> rfl) | (simp [*, errW_none, errW_some] <;> rfl), by repeat (first | (with_reducible first | exact HB.out | apply below_alloc | apply pw_below_drewN | apply below_drew1 | refine below_set ?_ GE215.out) | exact HB.out)⟩
  · replace c6 := Bool.eq_false_iff.mpr c6
    subst c6
    have H1 : (none) = some r := by rw [if_neg (show ¬ (false = true) by decide)] at H; exact H
    clear H
    have H := H1
    clear H1
    exact absurd H (by simp)

/-- THE ONE PURE STATEMENT of twoslotlaw07_VectorBumps: yours. -/
def twoslotlaw07_VectorBumps.Pure : Prop := ∀ (a0_0 : Int) (a0_1 : Int) (a0_2 : Int) (a0_3 : Int) (l1 : List Int) (l2 : List Int) (l3 : List Int), (Lit.int .i64 a0_0).wf = true → (Lit.int .i64 a0_1).wf = true → (Lit.int .i64 a0_2).wf = true → (Lit.int .i64 a0_3).wf = true → (l1.length ≤ maxLen ∧ l1.length * 8 ≤ 140737488351232 ∧ ∀ y0 ∈ l1, (Lit.int .i64 y0).wf = true) → (l2.length ≤ maxLen ∧ l2.length * 8 ≤ 140737488351232 ∧ ∀ y0 ∈ l2, (Lit.int .i64 y0).wf = true) → (l3.length ≤ maxLen ∧ l3.length * 8 ≤ 140737488351232 ∧ ∀ y0 ∈ l3, (Lit.int .i64 y0).wf = true) → ∃ k, twoslotlaw07_VectorBumps.f k a0_0 a0_1 a0_2 a0_3 l1 l2 l3 = some true

end Go.Proofs.Ytkmcjmhnoccedaa.PC
