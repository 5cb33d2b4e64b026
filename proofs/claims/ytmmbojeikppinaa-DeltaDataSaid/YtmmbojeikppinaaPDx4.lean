-- written by the session's own program (wip/prt.py) over the kit's print: not print.sh's own text
import Derived.Test.YtmmbojeikppinaaPDx0
import Derived.Test.YtmmbojeikppinaaPDx2
import Derived.Test.YtmmbojeikppinaaPDx6
namespace Go.Proofs.Ytmmbojeikppinaa.PD
open Go.RowKit Go.Proofs.YtmmbojeikppinaaW.PrintWords Go.Proofs.YtmmbojeikppinaaW.PrintLast Go.Proofs.YtmmbojeikppinaaW.PrintMore
attribute [local go_sem] max2_int min2_int max_two min_two max_three min_three max_four min_four   -- for this text's walks alone
set_option linter.unusedVariables false
set_option linter.unusedSimpArgs false

-- NOT PRINTED: function 55 (matrix_made)

/-! ### matrix_One: function 47 -/
def matrix_One.M (n : Nat) : List (List Int) := (List.range n).map (fun i => (List.range n).map (fun j => if i = j then (1 : Int) else 0))
def matrix_One.f (a0 : Int) : Option (List (List Int) × Int) := if a0 < 1 then some ([], 2) else if a0 > 32 then some ([], 2) else some (matrix_One.M a0.toNat, 0)
theorem matrix_One.lit (i j : Nat) (W : World) : Calls Try.prog 56 #[.int .i64 i, .int .i64 j] W fun e w' => e = .returned (.int .u8 (if i = j then (1 : Int) else 0)) ∧ Below W.heap.size W w' := by
  by_cases h : i = j
  · subst h
    have h1 : (((i : Int)) == (i : Int)) = true := beq_self_eq_true _
    go_enter Try.func56, Try.ntmps56
    go_wp2_with fail
    go_ret
    exact ⟨by simp, Below.refl _ _⟩
  · have h1 : (((i : Int)) == (j : Int)) = false := beq_eq_false_iff_ne.mpr (by omega)
    rw [if_neg h]
    clear h
    go_enter Try.func56, Try.ntmps56
    go_wp2_with fail
    go_ret
    exact ⟨rfl, Below.refl _ _⟩
theorem matrix_One.calls (a0 : Int) (r1 : List (List Int)) (r2 : Int) (w : World) (h : matrix_One.f a0 = some (r1, r2)) :
    Calls Try.prog 47 #[.int .i64 a0] w fun e w' => ∃ v0_ : Value, e = .returned (.tuple #[v0_, .int .i64 r2]) ∧ Kd.S (Kd.slice 5 (Kd.int .u8)) 23 w' w.heap.size (fun _ => True) v0_ r1 ∧ Below w.heap.size w w' := by
  unfold matrix_One.f at h
  by_cases h1 : a0 < 1
  · rw [if_pos h1] at h
    injection h with h; injection h with ha hb; subst ha hb
    go_enter Try.func47, Try.ntmps47
    go_wp2_with fail
    go_ret2
    exact ⟨_, rfl, Kd.S_nil _ _ _ _ _, Below.refl _ _⟩
  rw [if_neg h1] at h
  by_cases h2 : a0 > 32
  · rw [if_pos h2] at h
    injection h with h; injection h with ha hb; subst ha hb
    go_enter Try.func47, Try.ntmps47
    go_wp2_with fail
    go_ret2
    exact ⟨_, rfl, Kd.S_nil _ _ _ _ _, Below.refl _ _⟩
  rw [if_neg h2] at h
  injection h with h; injection h with ha hb; subst hb
  obtain ⟨n, rfl⟩ := Int.eq_ofNat_of_zero_le (show 0 ≤ a0 by omega)
  rw [Int.toNat_natCast] at ha
  have HA := Lib.hid ha
  have hX := made_One n n (fun i j => if i = j then 1 else 0) w (by omega) (by omega) (fun i j W _ _ _ => matrix_One.lit i j W)
  have HX := Lib.hid hX
  have hn : n ≤ 32 := by omega
  clear ha hX
  go_enter Try.func47, Try.ntmps47
  go_wp2_with fail
  refine HX.out.mono ?_
  rintro e w' ⟨b, rfl, hr, hb⟩
  have HR := Lib.hid hr
  have HB := Lib.hid hb
  clear hr hb
  go_wp2_with fail
  go_ret2
  refine ⟨_, rfl, ?_, HB.out⟩
  rw [← HA.out]
  exact HR.out.S (Nat.le_refl _) (by omega) (by omega)

/-! ### matrix_Cauchy: function 48 -/
def matrix_Cauchy.at_ (k : Int) (i j : Nat) : Int := Go.bits .xor .u8 (k + i) (j : Int)
def matrix_Cauchy.G (k : Int) (i j : Nat) : Int := ((gf_Inv.f (matrix_Cauchy.at_ k i j)).getD (0, 0)).1
def matrix_Cauchy.M (k r : Nat) : List (List Int) := (List.range r).map (fun (i : Nat) => (List.range k).map (fun (j : Nat) => matrix_Cauchy.G k i j))
def matrix_Cauchy.f (a0 a1 : Int) : Option (List (List Int) × Int) := if a0 < 1 then some ([], 2) else if a0 > 12 then some ([], 2) else if a1 < 1 then some ([], 2) else if a1 > 4 then some ([], 2) else if ∀ i, i < a1.toNat → ∀ j, j < a0.toNat → (gf_Inv.f (matrix_Cauchy.at_ a0 i j)).isSome = true then some (matrix_Cauchy.M a0.toNat a1.toNat, 0) else none
set_option maxHeartbeats 1000000 in
theorem matrix_Cauchy.lit (k : Int) (hk0 : 1 ≤ k) (hk1 : k ≤ 12) (g : Nat) (i j : Nat) (hi : i < 100) (hj : j < 100) (W : World) (hg : W.cell? ⟨g, 0, none⟩ = some (.int .i64 k)) (hs : (gf_Inv.f (matrix_Cauchy.at_ k i j)).isSome = true) :
    Calls Try.prog 57 #[.int .i64 i, .int .i64 j, .pointer (some ⟨g, 0, none⟩)] W fun e w' => e = .returned (.int .u8 (matrix_Cauchy.G k i j)) ∧ Below W.heap.size W w' := by
  obtain ⟨⟨x, y⟩, hx⟩ := Option.isSome_iff_exists.1 hs
  have HX := Lib.hid hx
  have HG := Lib.hid (show matrix_Cauchy.G k i j = x by unfold matrix_Cauchy.G; rw [hx]; rfl)
  have ha : gf_Add.f (k + i) (j : Int) = some (matrix_Cauchy.at_ k i j) := rfl
  have HA := Lib.hid ha
  have e2 : (j : Int) < 256 := by omega
  clear hs hx ha
  go_enter Try.func57, Try.ntmps57
  go_wp2_with fail
  refine (gf_Add.calls (k + i) (j : Int) (matrix_Cauchy.at_ k i j) _ HA.out).mono ?_
  rintro e w' ⟨rfl, ⟨nd, rfl⟩⟩
  go_wp2_with fail
  refine (gf_Inv.calls (matrix_Cauchy.at_ k i j) x y _ HX.out).mono ?_
  rintro e w' ⟨rfl, hb⟩
  have HB := Lib.hid (below_step (pw_below_drewN (Below.refl W.heap.size W) nd) hb)
  clear hb hg
  go_wp2_with fail
  go_ret
  exact ⟨by rw [HG.out]; rfl, HB.out⟩
set_option maxHeartbeats 4000000 in
theorem matrix_Cauchy.calls (a0 a1 : Int) (r1 : List (List Int)) (r2 : Int) (w : World) (h : matrix_Cauchy.f a0 a1 = some (r1, r2)) :
    Calls Try.prog 48 #[.int .i64 a0, .int .i64 a1] w fun e w' => ∃ v0_ : Value, e = .returned (.tuple #[v0_, .int .i64 r2]) ∧ Kd.S (Kd.slice 5 (Kd.int .u8)) 23 w' w.heap.size (fun _ => True) v0_ r1 ∧ Below w.heap.size w w' := by
  unfold matrix_Cauchy.f at h
  by_cases h1 : a0 < 1
  · rw [if_pos h1] at h
    injection h with h; injection h with ha hb; subst ha hb
    go_enter Try.func48, Try.ntmps48
    go_wp2_with fail
    go_ret2
    exact ⟨_, rfl, Kd.S_nil _ _ _ _ _, below_alloc (Below.refl _ _) _⟩
  rw [if_neg h1] at h
  by_cases h2 : a0 > 12
  · rw [if_pos h2] at h
    injection h with h; injection h with ha hb; subst ha hb
    have d1 : decide (a0 < 1) = false := decide_eq_false h1
    go_enter Try.func48, Try.ntmps48
    go_wp2_with fail
    go_ret2
    exact ⟨_, rfl, Kd.S_nil _ _ _ _ _, below_alloc (Below.refl _ _) _⟩
  rw [if_neg h2] at h
  by_cases h3 : a1 < 1
  · rw [if_pos h3] at h
    injection h with h; injection h with ha hb; subst ha hb
    have d1 : decide (a0 < 1) = false := decide_eq_false h1
    have d2 : decide (a0 > 12) = false := decide_eq_false h2
    go_enter Try.func48, Try.ntmps48
    go_wp2_with fail
    go_ret2
    exact ⟨_, rfl, Kd.S_nil _ _ _ _ _, below_alloc (Below.refl _ _) _⟩
  rw [if_neg h3] at h
  by_cases h4 : a1 > 4
  · rw [if_pos h4] at h
    injection h with h; injection h with ha hb; subst ha hb
    have d1 : decide (a0 < 1) = false := decide_eq_false h1
    have d2 : decide (a0 > 12) = false := decide_eq_false h2
    have d3 : decide (a1 < 1) = false := decide_eq_false h3
    go_enter Try.func48, Try.ntmps48
    go_wp2_with fail
    go_ret2
    exact ⟨_, rfl, Kd.S_nil _ _ _ _ _, below_alloc (Below.refl _ _) _⟩
  rw [if_neg h4] at h
  by_cases h5 : ∀ i, i < a1.toNat → ∀ j, j < a0.toNat → (gf_Inv.f (matrix_Cauchy.at_ a0 i j)).isSome = true
  case neg => rw [if_neg h5] at h; cases h
  rw [if_pos h5] at h
  injection h with h; injection h with ha hb; subst hb
  obtain ⟨k, rfl⟩ := Int.eq_ofNat_of_zero_le (show 0 ≤ a0 by omega)
  obtain ⟨r, rfl⟩ := Int.eq_ofNat_of_zero_le (show 0 ≤ a1 by omega)
  simp only [Int.toNat_natCast] at ha h5
  have HA := Lib.hid ha
  have HB := Lib.hid (below_alloc (Below.refl w.heap.size w) (.cells #[.int .i64 (k : Int)] 3))
  have HG := Lib.hid (blk_new w (.cells #[.int .i64 (k : Int)] 3))
  have hx0 : (w.alloc (.cells #[.int .i64 (k : Int)] 3)).cell? ⟨w.heap.size, 0, none⟩ = some (.int .i64 (k : Int)) := (blk_cell HG.out 0).trans rfl
  have hX := made_Cauchy r k (fun i j => matrix_Cauchy.G (k : Int) i j) (w.alloc (.cells #[.int .i64 (k : Int)] 3)) (by omega) (by omega) ⟨w.heap.size, 0, none⟩ (fun i j W hi hj hb => matrix_Cauchy.lit (k : Int) (by omega) (by omega) w.heap.size i j (by omega) (by omega) W ((hb.cell (p := ⟨w.heap.size, 0, none⟩) (by exact blk_lt HG.out)).trans hx0) (h5 i hi j hj))
  have HX := Lib.hid hX
  have hk : (k : Int) ≤ 12 := by omega
  have hr : (r : Int) ≤ 4 := by omega
  have hk1 : (1 : Int) ≤ k := by omega
  have hr1 : (1 : Int) ≤ r := by omega
  clear ha hX h5 h1 h2 h3 h4
  go_enter Try.func48, Try.ntmps48
  go_wp2_with fail
  refine HX.out.mono ?_
  rintro e w' ⟨b, rfl, hr, hb⟩
  have HR := Lib.hid hr
  have HB2 := Lib.hid (below_step HB.out hb)
  clear hr hb
  go_wp2_with fail
  go_ret2
  refine ⟨_, rfl, ?_, HB2.out⟩
  rw [← HA.out]
  have hs := HR.out.S HB.out.size (by omega) (by omega)
  simp only [sz] at hs
  exact hs

-- NOT PRINTED: function 34 (codec_made)

end Go.Proofs.Ytmmbojeikppinaa.PD
