import Derived.Test.YtmmbojeikppinaaPEx0
import Derived.Test.YtmmbojeikppinaaPEx3
import Derived.Test.YtmmbojeikppinaaPEx6
-- written by the session's own program (wip/prt.py) over the kit's print: not print.sh's own text
namespace Go.Proofs.Ytmmbojeikppinaa.PE
open Go.RowKit Go.Proofs.YtmmbojeikppinaaW.PrintWords Go.Proofs.YtmmbojeikppinaaW.PrintLast Go.Proofs.YtmmbojeikppinaaW.PrintMore
attribute [local go_sem] max2_int min2_int max_two min_two max_three min_three max_four min_four   -- for this text's walks alone
set_option linter.unusedVariables false
set_option linter.unusedSimpArgs false

-- NOT PRINTED: function 55 (matrix_made)

/-! ### matrix_One: function 47 -/
def matrix_One.M (n : Nat) : List (List Int) := (List.range n).map (fun i => (List.range n).map (fun j => if i = j then (1 : Int) else 0))
def matrix_One.f (a0 : Int) : Option (List (List Int) × Int) := if a0 < 1 then some ([], 2) else if a0 > 32 then some ([], 2) else some (matrix_One.M a0.toNat, 0)
theorem matrix_One.lit (i j : Nat) (W : World) : Calls Try.prog 56 #[.int .i64 i, .int .i64 j] W fun e w' => e = .returned (.int .u8 (if i = j then (1 : Int) else 0)) ∧ Below W.heap.size W w' := by
  by_cases h : i = j
  · subst h
    have h1 : (((i : Int)) == (i : Int)) = true := beq_self_eq_true _
    go_enter Try.func56, Try.ntmps56
    go_wp2_with fail
    go_ret
    exact ⟨by simp, Below.refl _ _⟩
  · have h1 : (((i : Int)) == (j : Int)) = false := beq_eq_false_iff_ne.mpr (by omega)
    rw [if_neg h]
    clear h
    go_enter Try.func56, Try.ntmps56
    go_wp2_with fail
    go_ret
    exact ⟨rfl, Below.refl _ _⟩
theorem matrix_One.calls (a0 : Int) (r1 : List (List Int)) (r2 : Int) (w : World) (h : matrix_One.f a0 = some (r1, r2)) :
    Calls Try.prog 47 #[.int .i64 a0] w fun e w' => ∃ v0_ : Value, e = .returned (.tuple #[v0_, .int .i64 r2]) ∧ Kd.S (Kd.slice 5 (Kd.int .u8)) 23 w' w.heap.size (fun _ => True) v0_ r1 ∧ Below w.heap.size w w' := by
  unfold matrix_One.f at h
  by_cases h1 : a0 < 1
  · rw [if_pos h1] at h
    injection h with h; injection h with ha hb; subst ha hb
    go_enter Try.func47, Try.ntmps47
    go_wp2_with fail
    go_ret2
    exact ⟨_, rfl, Kd.S_nil _ _ _ _ _, Below.refl _ _⟩
  rw [if_neg h1] at h
  by_cases h2 : a0 > 32
  · rw [if_pos h2] at h
    injection h with h; injection h with ha hb; subst ha hb
    go_enter Try.func47, Try.ntmps47
    go_wp2_with fail
    go_ret2
    exact ⟨_, rfl, Kd.S_nil _ _ _ _ _, Below.refl _ _⟩
  rw [if_neg h2] at h
  injection h with h; injection h with ha hb; subst hb
  obtain ⟨n, rfl⟩ := Int.eq_ofNat_of_zero_le (show 0 ≤ a0 by omega)
  rw [Int.toNat_natCast] at ha
  have HA := Lib.hid ha
  have hX := made_One n n (fun i j => if i = j then 1 else 0) w (by omega) (by omega) (fun i j W _ _ _ => matrix_One.lit i j W)
  have HX := Lib.hid hX
  have hn : n ≤ 32 := by omega
  clear ha hX
  go_enter Try.func47, Try.ntmps47
  go_wp2_with fail
  refine HX.out.mono ?_
  rintro e w' ⟨b, rfl, hr, hb⟩
  have HR := Lib.hid hr
  have HB := Lib.hid hb
  clear hr hb
  go_wp2_with fail
  go_ret2
  refine ⟨_, rfl, ?_, HB.out⟩
  rw [← HA.out]
  exact HR.out.S (Nat.le_refl _) (by omega) (by omega)

/-! ### matrix_Cauchy: function 48 -/
def matrix_Cauchy.at_ (k : Int) (i j : Nat) : Int := Go.bits .xor .u8 (k + i) (j : Int)
def matrix_Cauchy.G (k : Int) (i j : Nat) : Int := ((gf_Inv.f (matrix_Cauchy.at_ k i j)).getD (0, 0)).1
def matrix_Cauchy.M (k r : Nat) : List (List Int) := (List.range r).map (fun (i : Nat) => (List.range k).map (fun (j : Nat) => matrix_Cauchy.G k i j))
def matrix_Cauchy.f (a0 a1 : Int) : Option (List (List Int) × Int) := if a0 < 1 then some ([], 2) else if a0 > 12 then some ([], 2) else if a1 < 1 then some ([], 2) else if a1 > 4 then some ([], 2) else if ∀ i, i < a1.toNat → ∀ j, j < a0.toNat → (gf_Inv.f (matrix_Cauchy.at_ a0 i j)).isSome = true then some (matrix_Cauchy.M a0.toNat a1.toNat, 0) else none
set_option maxHeartbeats 1000000 in
theorem matrix_Cauchy.lit (k : Int) (hk0 : 1 ≤ k) (hk1 : k ≤ 12) (g : Nat) (i j : Nat) (hi : i < 100) (hj : j < 100) (W : World) (hg : W.cell? ⟨g, 0, none⟩ = some (.int .i64 k)) (hs : (gf_Inv.f (matrix_Cauchy.at_ k i j)).isSome = true) :
    Calls Try.prog 57 #[.int .i64 i, .int .i64 j, .pointer (some ⟨g, 0, none⟩)] W fun e w' => e = .returned (.int .u8 (matrix_Cauchy.G k i j)) ∧ Below W.heap.size W w' := by
  obtain ⟨⟨x, y⟩, hx⟩ := Option.isSome_iff_exists.1 hs
  have HX := Lib.hid hx
  have HG := Lib.hid (show matrix_Cauchy.G k i j = x by unfold matrix_Cauchy.G; rw [hx]; rfl)
  have ha : gf_Add.f (k + i) (j : Int) = some (matrix_Cauchy.at_ k i j) := rfl
  have HA := Lib.hid ha
  have e2 : (j : Int) < 256 := by omega
  clear hs hx ha
  go_enter Try.func57, Try.ntmps57
  go_wp2_with fail
  refine (gf_Add.calls (k + i) (j : Int) (matrix_Cauchy.at_ k i j) _ HA.out).mono ?_
  rintro e w' ⟨rfl, ⟨nd, rfl⟩⟩
  go_wp2_with fail
  refine (gf_Inv.calls (matrix_Cauchy.at_ k i j) x y _ HX.out).mono ?_
  rintro e w' ⟨rfl, hb⟩
  have HB := Lib.hid (below_step (pw_below_drewN (Below.refl W.heap.size W) nd) hb)
  clear hb hg
  go_wp2_with fail
  go_ret
  exact ⟨by rw [HG.out]; rfl, HB.out⟩
set_option maxHeartbeats 4000000 in
theorem matrix_Cauchy.calls (a0 a1 : Int) (r1 : List (List Int)) (r2 : Int) (w : World) (h : matrix_Cauchy.f a0 a1 = some (r1, r2)) :
    Calls Try.prog 48 #[.int .i64 a0, .int .i64 a1] w fun e w' => ∃ v0_ : Value, e = .returned (.tuple #[v0_, .int .i64 r2]) ∧ Kd.S (Kd.slice 5 (Kd.int .u8)) 23 w' w.heap.size (fun _ => True) v0_ r1 ∧ Below w.heap.size w w' := by
  unfold matrix_Cauchy.f at h
  by_cases h1 : a0 < 1
  · rw [if_pos h1] at h
    injection h with h; injection h with ha hb; subst ha hb
    go_enter Try.func48, Try.ntmps48
    go_wp2_with fail
    go_ret2
    exact ⟨_, rfl, Kd.S_nil _ _ _ _ _, below_alloc (Below.refl _ _) _⟩
  rw [if_neg h1] at h
  by_cases h2 : a0 > 12
  · rw [if_pos h2] at h
    injection h with h; injection h with ha hb; subst ha hb
    have d1 : decide (a0 < 1) = false := decide_eq_false h1
    go_enter Try.func48, Try.ntmps48
    go_wp2_with fail
    go_ret2
    exact ⟨_, rfl, Kd.S_nil _ _ _ _ _, below_alloc (Below.refl _ _) _⟩
  rw [if_neg h2] at h
  by_cases h3 : a1 < 1
  · rw [if_pos h3] at h
    injection h with h; injection h with ha hb; subst ha hb
    have d1 : decide (a0 < 1) = false := decide_eq_false h1
    have d2 : decide (a0 > 12) = false := decide_eq_false h2
    go_enter Try.func48, Try.ntmps48
    go_wp2_with fail
    go_ret2
    exact ⟨_, rfl, Kd.S_nil _ _ _ _ _, below_alloc (Below.refl _ _) _⟩
  rw [if_neg h3] at h
  by_cases h4 : a1 > 4
  · rw [if_pos h4] at h
    injection h with h; injection h with ha hb; subst ha hb
    have d1 : decide (a0 < 1) = false := decide_eq_false h1
    have d2 : decide (a0 > 12) = false := decide_eq_false h2
    have d3 : decide (a1 < 1) = false := decide_eq_false h3
    go_enter Try.func48, Try.ntmps48
    go_wp2_with fail
    go_ret2
    exact ⟨_, rfl, Kd.S_nil _ _ _ _ _, below_alloc (Below.refl _ _) _⟩
  rw [if_neg h4] at h
  by_cases h5 : ∀ i, i < a1.toNat → ∀ j, j < a0.toNat → (gf_Inv.f (matrix_Cauchy.at_ a0 i j)).isSome = true
  case neg => rw [if_neg h5] at h; cases h
  rw [if_pos h5] at h
  injection h with h; injection h with ha hb; subst hb
  obtain ⟨k, rfl⟩ := Int.eq_ofNat_of_zero_le (show 0 ≤ a0 by omega)
  obtain ⟨r, rfl⟩ := Int.eq_ofNat_of_zero_le (show 0 ≤ a1 by omega)
  simp only [Int.toNat_natCast] at ha h5
  have HA := Lib.hid ha
  have HB := Lib.hid (below_alloc (Below.refl w.heap.size w) (.cells #[.int .i64 (k : Int)] 3))
  have HG := Lib.hid (blk_new w (.cells #[.int .i64 (k : Int)] 3))
  have hx0 : (w.alloc (.cells #[.int .i64 (k : Int)] 3)).cell? ⟨w.heap.size, 0, none⟩ = some (.int .i64 (k : Int)) := (blk_cell HG.out 0).trans rfl
  have hX := made_Cauchy r k (fun i j => matrix_Cauchy.G (k : Int) i j) (w.alloc (.cells #[.int .i64 (k : Int)] 3)) (by omega) (by omega) ⟨w.heap.size, 0, none⟩ (fun i j W hi hj hb => matrix_Cauchy.lit (k : Int) (by omega) (by omega) w.heap.size i j (by omega) (by omega) W ((hb.cell (p := ⟨w.heap.size, 0, none⟩) (by exact blk_lt HG.out)).trans hx0) (h5 i hi j hj))
  have HX := Lib.hid hX
  have hk : (k : Int) ≤ 12 := by omega
  have hr : (r : Int) ≤ 4 := by omega
  have hk1 : (1 : Int) ≤ k := by omega
  have hr1 : (1 : Int) ≤ r := by omega
  clear ha hX h5 h1 h2 h3 h4
  go_enter Try.func48, Try.ntmps48
  go_wp2_with fail
  refine HX.out.mono ?_
  rintro e w' ⟨b, rfl, hr, hb⟩
  have HR := Lib.hid hr
  have HB2 := Lib.hid (below_step HB.out hb)
  clear hr hb
  go_wp2_with fail
  go_ret2
  refine ⟨_, rfl, ?_, HB2.out⟩
  rw [← HA.out]
  have hs := HR.out.S HB.out.size (by omega) (by omega)
  simp only [sz] at hs
  exact hs

-- NOT PRINTED: function 34 (codec_made)

end Go.Proofs.Ytmmbojeikppinaa.PE
-- written by the session's own program (wip/prt.py) over the kit's print: not print.sh's own text
namespace Go.Proofs.Ytmmbojeikppinaa.PE
open Go.RowKit Go.Proofs.YtmmbojeikppinaaW.PrintWords Go.Proofs.YtmmbojeikppinaaW.PrintLast Go.Proofs.YtmmbojeikppinaaW.PrintMore
attribute [local go_sem] max2_int min2_int max_two min_two max_three min_three max_four min_four   -- for this text's walks alone
set_option linter.unusedVariables false
set_option linter.unusedSimpArgs false

/-! ### codec_Row: function 28 -/
/-- the rows of a code: the unit matrix, the parity below -/
def codec_Row.M (k r : Nat) : List (List Int) := matrix_One.M k ++ (if r = 0 then [] else matrix_Cauchy.M k r)
def codec_Row.bad (a0 a1 : Int) : Prop := a0 < 1 ∨ a0 > 12 ∨ a1 < 0 ∨ a1 > 4
instance codec_Row.dec1 (a0 a1 : Int) : Decidable (codec_Row.bad a0 a1) := by unfold codec_Row.bad; infer_instance
def codec_Row.inv (a0 a1 : Int) : Prop := ∀ i, i < a1.toNat → ∀ j, j < a0.toNat → (gf_Inv.f (matrix_Cauchy.at_ a0 i j)).isSome = true
instance codec_Row.dec2 (a0 a1 : Int) : Decidable (codec_Row.inv a0 a1) := by unfold codec_Row.inv; infer_instance
def codec_Row.f (a0 a1 a2 : Int) : Option (List Int × Int) := if in64 a0 ∧ in64 a1 ∧ in64 a2 then (if codec_Row.bad a0 a1 then some ([], 2) else if codec_Row.inv a0 a1 then (if 0 ≤ a2 ∧ a2 < a0 + a1 then some (rw_ (codec_Row.M a0.toNat a1.toNat) a2.toNat, 0) else some ([], 2)) else none) else none
theorem codec_Row.M_len (k r : Nat) : (codec_Row.M k r).length = k + r := by
  unfold codec_Row.M matrix_One.M
  by_cases h : r = 0
  · subst h; simp
  · rw [if_neg h]; simp [matrix_Cauchy.M]
theorem codec_Row.M_one {k r i : Nat} (h : i < k) : rw_ (codec_Row.M k r) i = rw_ (matrix_One.M k) i := by
  have hl : (matrix_One.M k).length = k := by simp [matrix_One.M]
  unfold codec_Row.M rw_
  rw [List.getD_eq_getElem?_getD, List.getD_eq_getElem?_getD, List.getElem?_append_left (by omega)]
theorem codec_Row.M_two {k r i : Nat} (h : i < r) : rw_ (codec_Row.M k r) (k + i) = rw_ (matrix_Cauchy.M k r) i := by
  have hl : (matrix_One.M k).length = k := by simp [matrix_One.M]
  unfold codec_Row.M rw_
  rw [if_neg (by omega), List.getD_eq_getElem?_getD, List.getD_eq_getElem?_getD, List.getElem?_append_right (by omega), hl, Nat.add_sub_cancel_left]
theorem codec_Row.in64_nat {i : Nat} (h : i ≤ 1000) : in64 (i : Int) := by unfold in64; simp only [Lit.wf, Bool.and_eq_true, decide_eq_true_eq]; exact ⟨Int.le_trans (b := 0) (by decide) (by omega), Int.le_trans (b := 1000) (by omega) (by decide)⟩
theorem codec_Row.keys {k r n i : Nat} (hk : k ≤ 12) (hr : r ≤ 4) (hi : i ≤ 16) : ∃ l, keyOf Try.prog 65 (pk k r i) = some l := pk_key (codec_Row.in64_nat (by omega)) (codec_Row.in64_nat (by omega)) (codec_Row.in64_nat (by omega))
theorem codec_Row.keys_ne {k r i j : Nat} (h : i ≠ j) : pk k r i ≠ pk k r j := fun z => h (by have := pk_inj z; omega)
theorem codec_Row.bad1 (a0 a1 : Int) (h : codec_Row.bad a0 a1) (w : World) : Calls Try.prog 34 #[.int .i64 a0, .int .i64 a1] w fun e w' => e = .returned (.map none) ∧ w = w' := by
  unfold codec_Row.bad at h
  by_cases h1 : a0 < 1
  · have d1 : decide (a0 < 1) = true := decide_eq_true h1
    clear h
    go_enter Try.func34, Try.ntmps34
    go_wp2_with fail
    go_ret
    exact ⟨rfl, rfl⟩
  have d1 : decide (a0 < 1) = false := decide_eq_false h1
  by_cases h2 : a0 > 12
  · have d2 : decide (a0 > 12) = true := decide_eq_true h2
    clear h
    go_enter Try.func34, Try.ntmps34
    go_wp2_with fail
    go_ret
    exact ⟨rfl, rfl⟩
  have d2 : decide (a0 > 12) = false := decide_eq_false h2
  by_cases h3 : a1 < 0
  · have d3 : decide (a1 < 0) = true := decide_eq_true h3
    clear h
    go_enter Try.func34, Try.ntmps34
    go_wp2_with fail
    go_ret
    exact ⟨rfl, rfl⟩
  have d3 : decide (a1 < 0) = false := decide_eq_false h3
  have d4 : decide (a1 > 4) = true := decide_eq_true (by omega)
  clear h
  go_enter Try.func34, Try.ntmps34
  go_wp2_with fail
  go_ret
  exact ⟨rfl, rfl⟩
set_option maxHeartbeats 4000000 in
set_option maxRecDepth 100000 in
theorem codec_Row.made (k r : Nat) (hk0 : 1 ≤ k) (hk : k ≤ 12) (hr : r ≤ 4) (hi : codec_Row.inv k r) (w : World) : Calls Try.prog 34 #[.int .i64 k, .int .i64 r] w fun e w' => ∃ (g : Nat) (val : Nat → Value), e = .returned (.map (some g)) ∧
      MapIs w' g (k + r) (fun i => pk k r i) val ∧ (∀ i, i < k + r → Kd.R (Kd.int .u8) 5 w' w.heap.size (fun _ => True) (val i) (rw_ (codec_Row.M k r) i)) ∧ Below w.heap.size w w' := by
  have hmm := @run_makeMap Try.prog
  have h1 : ¬ (k : Int) < 1 := by omega
  have h2 : ¬ (k : Int) > 12 := by omega
  have h3 : ¬ (r : Int) < 0 := by omega
  have h4 : ¬ (r : Int) > 4 := by omega
  have d1 : decide ((k : Int) < 1) = false := decide_eq_false h1
  have d2 : decide ((k : Int) > 12) = false := decide_eq_false h2
  have d3 : decide ((r : Int) < 0) = false := decide_eq_false h3
  have d4 : decide ((r : Int) > 4) = false := decide_eq_false h4
  have ho : matrix_One.f (k : Int) = some (matrix_One.M k, 0) := by
    unfold matrix_One.f; rw [if_neg (by omega), if_neg (by omega), Int.toNat_natCast]
  have HO := Lib.hid ho
  have HK := Lib.hid hk
  have HR := Lib.hid hr
  have HI := Lib.hid hi
  have HK0 := Lib.hid hk0
  clear ho hi h1 h2 h3 h4 hk hr hk0
  go_enter Try.func34, Try.ntmps34
  go_wp2_with fail
  have HB := Lib.hid (below_alloc (Below.refl w.heap.size w) (.map #[] 0))
  have HMP := Lib.hid (MapIs.new w (fun i => pk k r i) (fun _ => undef))
  generalize w.alloc (.map #[] 0) = w1 at HB HMP ⊢
  have HGE := Lib.hid (Nat.le_refl w.heap.size)
  have HGL := Lib.hid HMP.out.lt
  generalize hgq : w.heap.size = g at HMP HGE HGL ⊢
  rw [← hgq] at HGE
  have HGQ := Lib.hid hgq
  clear hgq
  refine (matrix_One.calls (k : Int) (matrix_One.M k) 0 _ HO.out).mono ?_
  rintro e' w2 ⟨v1, rfl, ho, hb⟩
  have hkk := HK0.out
  obtain ⟨g1, cap1, b1, c1, rfl, -, hM⟩ := Mat.of_S (m := k) ho (by simp [matrix_One.M]) (by simp [matrix_One.M]; omega) hkk
  have hml : (matrix_One.M k).length = k := by simp [matrix_One.M]
  rw [hml]
  have HM := Lib.hid (hM.mono (S' := fun q => g < q ∧ w.heap.size ≤ q) (fun q hq => ⟨Nat.lt_of_lt_of_le HGL.out hq, Nat.le_trans HB.out.size hq⟩))
  have HML := Lib.hid hml
  replace HMP := Lib.hid (HMP.out.below hb)
  replace HB := Lib.hid (below_step HB.out hb)
  clear ho hb hM hkk hml HGL
  go_wp2_with fail
  go_loopg [8, 9, 36] k (fun gk s8 s9 s36 wx => ∃ i : Nat, i + gk = k ∧ s36 = .int .i64 i ∧ Hid (MapIs wx g i (fun i => pk k r i) (fun i => .slice (some ⟨b1 i, 0, none⟩) k (c1 i))) ∧ Hid (Mat wx (fun q => g < q ∧ w.heap.size ≤ q) g1 cap1 b1 c1 (matrix_One.M k) k) ∧ Hid (Below w.heap.size w wx))
  case atStart => exact ⟨0, by omega, rfl, Lib.hid (HMP.out.congr (fun i hi => absurd hi (by omega))), HM, HB⟩
  case round =>
    clear HMP HM HB
    obtain ⟨i, hig, rfl, HMP, HM, HB⟩ := hrel
    have hle : (i : Int) ≤ (k : Int) := by omega
    cases gk with
    | succ d =>
      have hlt : (i : Int) < (k : Int) := by omega
      have hx := HM.out.out (i := i) (by rw [HML.out]; omega)
      obtain ⟨o, hput, hnew⟩ := HMP.out.put (fun j hj => codec_Row.keys (n := 0) HK.out HR.out (by have := HK.out; omega)) (fun j hj => codec_Row.keys_ne (by omega))
      have HN := Lib.hid hnew
      have HM2 := Lib.hid (HM.out.keep (W' := ChangeMaps.setBlock wr g o) (fun q hq => put_other (by have := hq.1; omega) o HMP.out.lt))
      have HB2 := Lib.hid (put_below HB.out (Nat.le_of_eq HGQ.out) o HMP.out.lt)
      simp only [pk] at hput
      have hw : wrap64 ((i : Int) + 1) = ((i + 1 : Nat) : Int) := by have := HK.out; unfold wrap64; omega
      have HW := Lib.hid hw
      clear hnew hw HMP HM HB hle
      go_wp2_with fail
      go_roundg d
      case measure => omega
      case rel => exact ⟨i + 1, by omega, by rw [HW.out], HN, HM2, HB2⟩
    | zero =>
      obtain rfl : i = k := by omega
      clear hle hig
      by_cases hr0 : r = 0
      case pos =>
        subst hr0
        have d5 : decide (((0 : Nat) : Int) > 0) = false := by decide
        go_wp2_with fail
        go_ret
        refine ⟨g, _, rfl, HMP.out, fun q hq => ?_, HB.out⟩
        rw [codec_Row.M_one (by omega)]
        exact Kd.R_mono (HM.out.R (i := q) (by rw [HML.out]; omega) (HM.out.2.2.1 q (by rw [HML.out]; omega)).2.1.2) (fun _ _ => trivial)
      have d5 : decide ((r : Int) > 0) = true := decide_eq_true (by omega)
      have d6 : (0 : Int) < (r : Int) := by omega
      have hc : matrix_Cauchy.f (i : Int) (r : Int) = some (matrix_Cauchy.M i r, 0) := by
        have := HR.out; have := HK.out; have := HK0.out
        unfold matrix_Cauchy.f; rw [if_neg (by omega), if_neg (by omega), if_neg (by omega), if_neg (by omega), if_pos (by simpa [codec_Row.inv] using HI.out)]; simp
      have HC := Lib.hid hc
      have HR0 := Lib.hid hr0
      clear hc hr0
      go_wp2_with fail
      refine (matrix_Cauchy.calls (i : Int) (r : Int) (matrix_Cauchy.M i r) 0 _ HC.out).mono ?_
      rintro e' w3 ⟨v2, rfl, ho, hb⟩
      have hkk := HK0.out
      have hcl : (matrix_Cauchy.M i r).length = r := by simp [matrix_Cauchy.M]
      obtain ⟨g2, cap2, b2, c2, rfl, -, hM⟩ := Mat.of_S (m := i) ho (by simp [matrix_Cauchy.M]) (by have := HR0.out; omega) hkk
      rw [hcl]
      have HM2 := Lib.hid (hM.mono (S' := fun q => g < q ∧ w.heap.size ≤ q) (fun q hq => ⟨Nat.lt_of_lt_of_le HMP.out.lt hq, Nat.le_trans HB.out.size hq⟩))
      have HCL := Lib.hid hcl
      replace HMP := Lib.hid (HMP.out.below hb)
      replace HM := Lib.hid (HM.out.below hb)
      replace HB := Lib.hid (below_step HB.out hb)
      clear ho hb hM hkk hcl
      go_wp2_with fail
      go_loopg [12, 13, 58] r (fun gk s12 s13 s58 wx => ∃ j : Nat, j + gk = r ∧ s58 = .int .i64 j ∧ Hid (MapIs wx g (i + j) (fun q => pk i r q) (fun q => if q < i then .slice (some ⟨b1 q, 0, none⟩) i (c1 q) else .slice (some ⟨b2 (q - i), 0, none⟩) i (c2 (q - i)))) ∧ Hid (Mat wx (fun q => g < q ∧ w.heap.size ≤ q) g1 cap1 b1 c1 (matrix_One.M i) i) ∧ Hid (Mat wx (fun q => g < q ∧ w.heap.size ≤ q) g2 cap2 b2 c2 (matrix_Cauchy.M i r) i) ∧ Hid (Below w.heap.size w wx))
      case atStart => exact ⟨0, by omega, rfl, Lib.hid (HMP.out.congr (fun q hq => by rw [if_pos (by omega)])), HM, HM2, HB⟩
      case round =>
        clear HMP HM HM2 HB
        obtain ⟨j, hjg, rfl, HMP, HM, HM2, HB⟩ := hrel
        have hle : (j : Int) ≤ (r : Int) := by omega
        cases gk with
        | succ d =>
          have hlt : (j : Int) < (r : Int) := by omega
          have hx := HM2.out.out (i := j) (by rw [HCL.out]; omega)
          obtain ⟨o, hput, hnew⟩ := HMP.out.put (fun q hq => codec_Row.keys (n := 0) HK.out HR.out (by have := HK.out; have := HR.out; omega)) (fun q hq => codec_Row.keys_ne (by omega))
          have HN := Lib.hid hnew
          have HM3 := Lib.hid (HM.out.keep (W' := ChangeMaps.setBlock wr g o) (fun q hq => put_other (by have := hq.1; omega) o HMP.out.lt))
          have HM4 := Lib.hid (HM2.out.keep (W' := ChangeMaps.setBlock wr g o) (fun q hq => put_other (by have := hq.1; omega) o HMP.out.lt))
          have HB2 := Lib.hid (put_below HB.out (Nat.le_of_eq HGQ.out) o HMP.out.lt)
          simp only [pk] at hput
          rw [if_neg (by omega), show i + j - i = j by omega, show ((i + j : Nat) : Int) = (i : Int) + (j : Int) by omega] at hput
          have hw : wrap64 ((j : Int) + 1) = ((j + 1 : Nat) : Int) := by have := HR.out; unfold wrap64; omega
          have hw2 : wrap64 ((i : Int) + (j : Int)) = (i : Int) + (j : Int) := by have := HR.out; have := HK.out; unfold wrap64; omega
          have hb1 : (i : Int) ≤ 12 := by have := HK.out; omega
          have hb2 : (r : Int) ≤ 4 := by have := HR.out; omega
          have HW := Lib.hid hw
          clear hnew hw hw2 HMP HM HM2 HB hle
          go_wp2_with fail
          go_roundg d
          case measure => omega
          case rel => exact ⟨j + 1, by omega, by first | rw [HW.out] | (simp; done), HN, HM3, HM4, HB2⟩
        | zero =>
          obtain rfl : j = r := by omega
          go_wp2_with fail
          go_ret
          refine ⟨g, _, rfl, HMP.out, fun q hq => ?_, HB.out⟩
          by_cases hqi : q < i
          · rw [codec_Row.M_one hqi, if_pos hqi]
            exact Kd.R_mono (HM.out.R (i := q) (by rw [HML.out]; omega) (HM.out.2.2.1 q (by rw [HML.out]; omega)).2.1.2) (fun _ _ => trivial)
          · obtain ⟨p, rfl⟩ : ∃ p, q = i + p := ⟨q - i, by omega⟩
            rw [codec_Row.M_two (by omega), if_neg hqi, show i + p - i = p by omega]
            exact Kd.R_mono (HM2.out.R (i := p) (by rw [HCL.out]; omega) (HM2.out.2.2.1 p (by rw [HCL.out]; omega)).2.1.2) (fun _ _ => trivial)
theorem codec_Row.zero (w : World) : (zeroValue 23).run Try.prog w = .ok (.slice none 0 0) w := by kernel_rfl
theorem codec_Row.calls (a0 a1 a2 : Int) (r1 : List Int) (r2 : Int) (w : World) (h : codec_Row.f a0 a1 a2 = some (r1, r2)) :
    Calls Try.prog 28 #[.int .i64 a0, .int .i64 a1, .int .i64 a2] w fun e w' => ∃ v0_ : Value, e = .returned (.tuple #[v0_, .int .i64 r2]) ∧ Kd.R (Kd.int .u8) 5 w' w.heap.size (fun _ => True) v0_ r1 ∧ Below w.heap.size w w' := by
  unfold codec_Row.f at h
  by_cases h64 : in64 a0 ∧ in64 a1 ∧ in64 a2
  case neg => rw [if_neg h64] at h; cases h
  rw [if_pos h64] at h
  have hkey := pk_key h64.1 h64.2.1 h64.2.2
  by_cases hb : codec_Row.bad a0 a1
  · rw [if_pos hb] at h
    injection h with h; injection h with ha hc; subst ha hc
    have HBAD := Lib.hid hb
    have HL := Lib.hid (fun W : World => look_nil W (.slice none 0 0) (codec_Row.zero W) true hkey)
    clear hb hkey h64
    go_enter Try.func28, Try.ntmps28
    go_wp2_with fail
    refine (codec_Row.bad1 a0 a1 HBAD.out _).mono ?_
    rintro e' w1 ⟨rfl, rfl⟩
    have hl := HL.out w
    simp only [pk, if_true] at hl
    go_wp2_with fail
    go_ret2
    exact ⟨_, rfl, Kd.R_nil _ _ _ _ _, Below.refl _ _⟩
  rw [if_neg hb] at h
  by_cases hi : codec_Row.inv a0 a1
  case neg => rw [if_neg hi] at h; cases h
  rw [if_pos hi] at h
  unfold codec_Row.bad at hb
  obtain ⟨k, rfl⟩ := Int.eq_ofNat_of_zero_le (show 0 ≤ a0 by omega)
  obtain ⟨r, rfl⟩ := Int.eq_ofNat_of_zero_le (show 0 ≤ a1 by omega)
  simp only [Int.toNat_natCast] at h
  have hk0 : 1 ≤ k := by omega
  have hk : k ≤ 12 := by omega
  have hr : r ≤ 4 := by omega
  have HI := Lib.hid hi
  have HK0 := Lib.hid hk0
  have HK := Lib.hid hk
  have HR := Lib.hid hr
  have HKEY := Lib.hid hkey
  have H := Lib.hid h
  clear hb hi hkey h64 hk0 hk hr h
  go_enter Try.func28, Try.ntmps28
  go_wp2_with fail
  refine (codec_Row.made k r HK0.out HK.out HR.out HI.out _).mono ?_
  rintro e' w1 ⟨g, val, rfl, hmp, hrow, hb⟩
  have HB := Lib.hid hb
  rcases hmp.look (fun i hi => codec_Row.keys (n := 0) HK.out HR.out (by have := HK.out; have := HR.out; omega)) (.slice none 0 0) (codec_Row.zero w1) true HKEY.out with ⟨i, hi, hx, hl⟩ | ⟨hno, hl⟩
  · have e2 := pk_inj hx
    subst e2
    have h := H.out
    rw [if_pos ⟨by omega, by omega⟩, Int.toNat_natCast] at h
    injection h with h; injection h with ha hc; subst ha hc
    have HRW := Lib.hid (hrow i hi)
    simp only [pk, if_true] at hl
    clear hmp hrow hb hx H
    go_wp2_with fail
    go_ret2
    exact ⟨_, rfl, HRW.out, HB.out⟩
  · have h := H.out
    rw [if_neg (fun z => hno a2.toNat (by omega) (by rw [show ((a2.toNat : Nat) : Int) = a2 by omega]))] at h
    injection h with h; injection h with ha hc; subst ha hc
    simp only [pk, if_true] at hl
    clear hmp hrow hb hno H
    go_wp2_with fail
    go_ret2
    exact ⟨_, rfl, Kd.R_nil _ _ _ _ _, HB.out⟩

end Go.Proofs.Ytmmbojeikppinaa.PE
-- written by the session's own program (wip/prt.py) over the kit's print: not print.sh's own text
namespace Go.Proofs.Ytmmbojeikppinaa.PE
open Go.RowKit Go.Proofs.YtmmbojeikppinaaW.PrintWords Go.Proofs.YtmmbojeikppinaaW.PrintLast Go.Proofs.YtmmbojeikppinaaW.PrintMore
attribute [local go_sem] max2_int min2_int max_two min_two max_three min_three max_four min_four   -- for this text's walks alone
set_option linter.unusedVariables false
set_option linter.unusedSimpArgs false

/-! ### kernel_Xor: function 22 -/
def kernel_Xor.f (k : Nat) (l0 : List Int) (l1 : List Int) : Option (List Int × Int) := (kernel_Plus.f k l0 1 l1).bind fun bt128 => (some (bt128.1, bt128.2))
theorem kernel_Xor.mono : ∀ a0 a1 k, LeO (kernel_Xor.f k a0 a1) (kernel_Xor.f (k + 1) a0 a1) := by
  intro a0 a1 k
  unfold kernel_Xor.f
  repeat' first
      | (with_reducible exact kernel_Plus.mono _ _ _ _)
      | (with_reducible exact LeO.refl _)
      | (with_reducible exact LeO.none _)
      | (with_reducible refine LeO.ite ?_ ?_)
      | (with_reducible refine LeO.bind ?_ (fun _ => ?_))
      | exact kernel_Plus.mono _ _ _ _
      | exact LeO.none _
      | refine LeO.ite ?_ ?_
      | refine LeO.bind ?_ (fun _ => ?_)
set_option maxHeartbeats 8000000 in
set_option maxRecDepth 100000 in
theorem kernel_Xor.calls (k : Nat) (A0 : Option Addr) (c0 : Nat) (l0 : List Int) (A1 : Option Addr) (c1 : Nat) (l1 : List Int) (r1 : List Int) (r2 : Int) (w : World) (hr0 : Kd.C (Kd.int .u8) w A0 l0.length l0) (hc0 : l0.length ≤ c0) (hr1 : Kd.C (Kd.int .u8) w A1 l1.length l1) (hc1 : l1.length ≤ c1) (h : kernel_Xor.f k l0 l1 = some (r1, r2)) :
    Calls Try.prog 22 #[.slice A0 l0.length c0, .slice A1 l1.length c1] w fun e w' => ∃ v0_ : Value, e = .returned (.tuple #[v0_, .int .i64 r2]) ∧ Kd.R (Kd.int .u8) 5 w' w.heap.size (fun _ => True) v0_ r1 ∧ Below w.heap.size w w' := by
  have HR0 := Aside0.mk hr0
  have HC0 := Aside0.mk hc0
  clear hr0 hc0
  have HR1 := Aside0.mk hr1
  have HC1 := Aside0.mk hc1
  clear hr1 hc1
  have HB := Aside0.mk (Below.refl w.heap.size w)
  have H : ((kernel_Plus.f k l0 1 l1).bind fun bt128 => (some (bt128.1, bt128.2))) = some (r1, r2) := h
  clear h
  replace H := Option.bind_eq_some_iff.mp H
  obtain ⟨⟨t128, t131⟩, A30, H⟩ := H
  replace H : (some (t128, t131)) = some (r1, r2) := H
  have A3 := Aside0.mk A30
  clear A30
  simp only [Option.some.injEq, Prod.mk.injEq] at H
  obtain ⟨rfl, rfl⟩ := H
  go_enter Try.func22, Try.ntmps22
  go_wp2_with (first | ((with_reducible refine gate_callee (f := 39) rfl ?_); refine goesL_ (some 8) rfl rfl Try.func39 (by kernel_rfl) rfl #[.slice A0 l0.length c0, .int .u8 1, .slice A1 l1.length c1] rfl (by (try simp only [List.map_toArray, List.map_cons, List.map_nil]); first | done | rfl | (simp only [List.length_drop, List.length_take]; rfl)) ?_; (with_reducible refine (kernel_Plus.calls k (fun k_ => k_ < w.heap.size) _ _ l0 1 (fun k_ => k_ < w.heap.size) _ _ l1 t128 t131 _ ?side1 ?side2 A3.out).mono ?_); (case side1 => exact Kd.V_mk HC0.out (Kd.F_below (Kd.C_F (Kd.heap_int .u8) HR0.out) (by repeat (first | (with_reducible first | exact HB.out | apply below_alloc | apply pw_below_drewN | apply below_drew1) | exact HB.out)))); (case side2 => exact Kd.V_mk HC1.out (Kd.F_below (Kd.C_F (Kd.heap_int .u8) HR1.out) (by repeat (first | (with_reducible first | exact HB.out | apply below_alloc | apply pw_below_drewN | apply below_drew1) | exact HB.out)))); rintro e w4 ⟨v129, rfl, ho0, hb⟩; refine ⟨_, rfl, ?_⟩; have n0_ := Aside0.mk (Kd.R_lower (Kd.R_mono (ok' := fun k_ => True) ho0 (fun _ hk_ => trivial)) (below_size (by repeat (first | (with_reducible first | exact HB.out | apply below_alloc | apply pw_below_drewN | apply below_drew1) | exact HB.out)))); have n1_ := Aside0.mk (below_step (by repeat (first | (with_reducible first | exact HB.out | apply below_alloc | apply pw_below_drewN | apply below_drew1) | exact HB.out)) hb); clear HB; have HO130 := n0_; have HB := n1_; clear n0_ n1_; (try clear hb); (try clear hb2); (try clear hk); (try clear hi); (try clear ho0)))
  go_ret2
  exact ⟨_, by first | rfl | (simp [errW_none, errW_some] <;> rfl) | (simp [*, errW_none, errW_some] <;> rfl), by (with_reducible repeat (first | apply Kd.R_alloc | apply Kd.R_drewN | apply Kd.R_drew)); exact HO130.out, by repeat (first | (with_reducible first | exact HB.out | apply below_alloc | apply pw_below_drewN | apply below_drew1) | exact HB.out)⟩

-- NOT PRINTED: function 49 (slices_IndexFunc_byte_byte)

-- NOT PRINTED: function 37 (slices_ContainsFunc_byte_byte)

/-! ### delta_alike: function 21 -/
def delta_alike.bad (n n0 : Nat) : Bool := decide (n < 1) || (decide (65536 < n) || decide (n ≠ n0))
/-- the first one that is bad -/
def delta_alike.idx (n0 : Nat) : List (List Int) → Int → Int
  | [], _ => -1
  | x :: xs, i => if delta_alike.bad x.length n0 = true then i else delta_alike.idx n0 xs (i + 1)
theorem delta_alike.idx_drop {n0 : Nat} {l : List (List Int)} {i : Nat} (h : i < l.length) : delta_alike.idx n0 (l.drop i) i = if delta_alike.bad (rd_L1 l i).length n0 = true then (i : Int) else delta_alike.idx n0 (l.drop (i + 1)) ((i + 1 : Nat) : Int) := by
  rw [List.drop_eq_getElem_cons h, delta_alike.idx]
  have : rd_L1 l (i : Int) = l[i] := by simp [rd_L1, h]
  rw [this]; rfl
theorem delta_alike.idx_any (n0 : Nat) : ∀ (l : List (List Int)) (i : Int), 0 ≤ i → decide (delta_alike.idx n0 l i ≥ 0) = l.any (fun x => delta_alike.bad x.length n0)
  | [], _, _ => rfl
  | x :: xs, i, h => by
    rw [delta_alike.idx, List.any_cons]
    cases delta_alike.bad x.length n0 with
    | true => simp [h]
    | false => simp only [Bool.false_eq_true, if_false, Bool.false_or]; exact delta_alike.idx_any n0 xs (i + 1) (by omega)
def delta_alike.f (l0 : List (List Int)) : Option Bool := some (!l0.any (fun x => delta_alike.bad x.length (rd_L1 l0 0).length))
theorem delta_alike.lit (A : Option Addr) (c n n0 m c0 gb : Nat) (ad : Addr) (B0 : Option Addr) (d0 : Nat) (W : World) (hm : 0 < m) (hb : W.cell? ⟨gb, 0, none⟩ = some (.slice (some ad) m c0)) (hx : W.cell? (ad.add 0) = some (.slice B0 n0 d0)) :
    Calls Try.prog 38 #[.slice A n c, .pointer (some ⟨gb, 0, none⟩)] W fun e w' => e = .returned (.bool (delta_alike.bad n n0)) ∧ w' = W := by
  have hm' : (0 : Int) < (m : Int) := by omega
  have ea : ad.add 0 = ad := by cases ad; simp [Addr.add]
  rw [ea] at hx
  clear ea
  by_cases h1 : n < 1
  · have d1 : decide ((n : Int) < 1) = true := decide_eq_true (by omega)
    have d1' : decide (n < 1) = true := decide_eq_true h1
    have e1 : delta_alike.bad n n0 = true := by unfold delta_alike.bad; rw [d1']; rfl
    have HE := Lib.hid e1
    clear h1 e1
    go_enter Try.func38, Try.ntmps38
    go_wp2_with fail
    go_ret
    exact ⟨by rw [HE.out]; rfl, rfl⟩
  have d1 : decide ((n : Int) < 1) = false := decide_eq_false (by omega)
  have d1' : decide (n < 1) = false := decide_eq_false h1
  by_cases h2 : 65536 < n
  · have d2 : decide ((n : Int) > 65536) = true := decide_eq_true (by omega)
    have e1 : delta_alike.bad n n0 = true := by unfold delta_alike.bad; rw [d1', decide_eq_true h2]; rfl
    have HE := Lib.hid e1
    clear h1 h2 e1
    go_enter Try.func38, Try.ntmps38
    go_wp2_with fail
    go_ret
    exact ⟨by rw [HE.out]; rfl, rfl⟩
  have d2 : decide ((n : Int) > 65536) = false := decide_eq_false (by omega)
  have d2' : decide (65536 < n) = false := decide_eq_false h2
  have e1 : delta_alike.bad n n0 = ((n : Int) != (n0 : Int)) := by
    unfold delta_alike.bad; rw [d1', d2']
    by_cases h3 : n = n0
    · subst h3; simp
    · rw [decide_eq_true h3, show ((n : Int) != (n0 : Int)) = true from bne_iff_ne.mpr (by omega)]; rfl
  have HE := Lib.hid e1
  clear h1 h2 e1
  go_enter Try.func38, Try.ntmps38
  go_wp2_with fail
  go_ret
  exact ⟨by rw [HE.out]; rfl, rfl⟩
set_option maxHeartbeats 400000 in
theorem delta_alike.index (A : Option Addr) (c : Nat) (l : List (List Int)) (gb : Nat) (w : World) (hr : Kd.C (Kd.slice 5 (Kd.int .u8)) w A l.length l) (hc : l.length ≤ c) (hb : w.cell? ⟨gb, 0, none⟩ = some (.slice A l.length c)) :
    Calls Try.prog 49 #[.slice A l.length c, .func (.func 38) #[] #[.pointer (some ⟨gb, 0, none⟩)]] w fun e w' => e = .returned (.int .i64 (delta_alike.idx (rd_L1 l 0).length l 0)) ∧ w' = w := by
  have hl : l.length ≤ 9223372036854775807 := hr.2.1
  have HR := Lib.hid hr
  have HBX := Lib.hid hb
  clear hr hb
  go_enter Try.func49, Try.ntmps49
  go_wp2_with fail
  go_loopg [5, 8] l.length (fun g s5 s8 wx => ∃ n : Nat, n + g = l.length ∧ s8 = .int .i64 n ∧ wx = w ∧ Aside0 (delta_alike.idx (rd_L1 l 0).length l 0 = delta_alike.idx (rd_L1 l 0).length (l.drop n) n))
  case atStart => exact ⟨0, by omega, rfl, rfl, ⟨rfl⟩⟩
  case round =>
    obtain ⟨n, hng, rfl, rfl, HI⟩ := hrel
    cases gk with
    | zero =>
      obtain rfl : n = l.length := by omega
      go_wp2_with fail
      go_ret
      exact ⟨by rw [HI.out, List.drop_length]; rfl, rfl⟩
    | succ g =>
      have hn : n < l.length := by omega
      obtain ⟨ad0, B0, d0, e0, hx0, -, -⟩ := at_L1 HR.out 0 (by omega) (by omega)
      obtain ⟨ad, A1, c1, e1, hx, -, -⟩ := at_L1 HR.out (n : Int) (by omega) (by omega)
      rw [Int.toNat_natCast] at hx
      cases e1
      injection e0 with e0
      subst e0
      have hd := delta_alike.idx_drop (n0 := (rd_L1 l 0).length) hn
      obtain ⟨b, hb⟩ : ∃ b, delta_alike.bad (rd_L1 l n).length (rd_L1 l 0).length = b := ⟨_, rfl⟩
      rw [hb] at hd
      have HD := Lib.hid hd
      have HB := Lib.hid hb
      have HX0 := Lib.hid hx0
      have HN := Lib.hid hn
      clear hd hb hx0
      go_wp2_with fail
      refine (delta_alike.lit _ _ _ _ l.length c gb _ B0 d0 _ (by have := HN.out; omega) HBX.out HX0.out).mono ?_
      rw [HB.out]
      rintro en w1 ⟨rfl, rfl⟩
      cases b with
      | true =>
        go_wp2_with fail
        go_ret
        exact ⟨by rw [HI.out, HD.out]; rfl, rfl⟩
      | false =>
        go_wp2_with fail
        go_roundg g
        case measure => omega
        case rel => exact ⟨n + 1, by omega, by go_num, rfl, ⟨by rw [HI.out, HD.out]; rfl⟩⟩
set_option maxHeartbeats 400000 in
theorem delta_alike.contains (A : Option Addr) (c : Nat) (l : List (List Int)) (gb : Nat) (w : World) (hr : Kd.C (Kd.slice 5 (Kd.int .u8)) w A l.length l) (hc : l.length ≤ c) (hb : w.cell? ⟨gb, 0, none⟩ = some (.slice A l.length c)) :
    Calls Try.prog 37 #[.slice A l.length c, .func (.func 38) #[] #[.pointer (some ⟨gb, 0, none⟩)]] w fun e w' => e = .returned (.bool (l.any (fun x => delta_alike.bad x.length (rd_L1 l 0).length))) ∧ w' = w := by
  have HR := Lib.hid hr
  have HBX := Lib.hid hb
  have HA := Lib.hid (delta_alike.idx_any (rd_L1 l 0).length l 0 (by omega))
  clear hr hb
  go_enter Try.func37, Try.ntmps37
  go_wp2_with fail
  refine (delta_alike.index A c l gb _ HR.out hc HBX.out).mono ?_
  rintro en w1 ⟨rfl, rfl⟩
  go_wp2_with fail
  go_ret
  exact ⟨by rw [← HA.out]; rfl, rfl⟩
set_option maxHeartbeats 400000 in
theorem delta_alike.calls (A0 : Option Addr) (c0 : Nat) (l0 : List (List Int)) (r : Bool) (w : World) (hr0 : Kd.C (Kd.slice 5 (Kd.int .u8)) w A0 l0.length l0) (hc0 : l0.length ≤ c0) (h : delta_alike.f l0 = some r) :
    Calls Try.prog 21 #[.slice A0 l0.length c0] w fun e w' => e = .returned (.bool r) ∧ Below w.heap.size w w' := by
  unfold delta_alike.f at h
  injection h with h
  subst h
  have HR := Lib.hid hr0
  have HC := Lib.hid hc0
  have HB := Lib.hid (below_alloc (Below.refl w.heap.size w) (.cells #[.slice A0 l0.length c0] 27))
  have HG := Lib.hid (blk_new w (.cells #[.slice A0 l0.length c0] 27))
  clear hr0 hc0
  go_enter Try.func21, Try.ntmps21
  go_wp2_with fail
  refine (delta_alike.contains A0 c0 l0 w.heap.size _ (Kd.C_below HR.out HB.out) HC.out ((blk_cell HG.out 0).trans rfl)).mono ?_
  rintro en w1 ⟨rfl, rfl⟩
  go_wp2_with fail
  go_ret
  exact ⟨rfl, HB.out⟩

/-! ### delta_asked: function 23 -/
def delta_asked.f (a0 : Int) (a1 : Int) (l2 : List (List Int)) : Option (Int) := (codec_Row.f a0 a1 0).bind fun bt132 => (if bt132.2 = 0 then (if (l2.length : Int) = a1 then ((delta_alike.f l2).bind fun t136 => (if t136 = true then (some 0) else (some 40))) else (some 40)) else (some bt132.2))
set_option maxHeartbeats 8000000 in
set_option maxRecDepth 100000 in
theorem delta_asked.calls (a0 : Int) (a1 : Int) (A2 : Option Addr) (c2 : Nat) (l2 : List (List Int)) (r : Int) (w : World) (hr2 : Kd.C (Kd.slice 5 (Kd.int .u8)) w A2 l2.length l2) (hc2 : l2.length ≤ c2) (h : delta_asked.f a0 a1 l2 = some r) :
    Calls Try.prog 23 #[.int .i64 a0, .int .i64 a1, .slice A2 l2.length c2] w fun e w' => e = .returned (.int .i64 r) ∧ Below w.heap.size w w' := by
  have HR2 := Aside0.mk hr2
  have HC2 := Aside0.mk hc2
  clear hr2 hc2
  have HB := Aside0.mk (Below.refl w.heap.size w)
  have H : ((codec_Row.f a0 a1 0).bind fun bt132 => (if bt132.2 = 0 then (if (l2.length : Int) = a1 then ((delta_alike.f l2).bind fun t136 => (if t136 = true then (some 0) else (some 40))) else (some 40)) else (some bt132.2))) = some r := h
  clear h
  replace H := Option.bind_eq_some_iff.mp H
  obtain ⟨⟨t132, t133⟩, A40, H⟩ := H
  replace H : (if t133 = 0 then (if (l2.length : Int) = a1 then ((delta_alike.f l2).bind fun t136 => (if t136 = true then (some 0) else (some 40))) else (some 40)) else (some t133)) = some r := H
  have A4 := Aside0.mk A40
  clear A40
  by_cases c5 : t133 = 0
  · rw [if_pos c5] at H
    have c5b0 : (t133 == 0) = true := beq_iff_eq.mpr c5
    have c5b1 : (t133 != 0) = false := bne_eq_false_iff_eq.mpr c5
    clear c5
    by_cases c6 : (l2.length : Int) = a1
    · rw [if_pos c6] at H
      have c6b0 : ((l2.length : Int) == a1) = true := beq_iff_eq.mpr c6
      have c6b1 : ((l2.length : Int) != a1) = false := bne_eq_false_iff_eq.mpr c6
      clear c6
      replace H := Option.bind_eq_some_iff.mp H
      obtain ⟨t136, A70, H⟩ := H
      replace H : (if t136 = true then (some 0) else (some 40)) = some r := H
      have A7 := Aside0.mk A70
      clear A70
      by_cases c8 : t136 = true
      · subst c8
        have H1 : (some 0) = some r := by rw [if_pos rfl] at H; exact H
        clear H
        have H := H1
        clear H1
        obtain rfl := Option.some.inj H
        go_enter Try.func23, Try.ntmps23
        go_wp2_with (first | ((with_reducible refine gate_callee (f := 28) rfl ?_); refine goesL_ (some 12) rfl rfl Try.func28 (by kernel_rfl) rfl #[.int .i64 a0, .int .i64 a1, .int .i64 0] rfl (by (try simp only [List.map_toArray, List.map_cons, List.map_nil]); first | done | rfl | (simp only [List.length_drop, List.length_take]; rfl)) ?_; (with_reducible refine (codec_Row.calls a0 a1 0 t132 t133 _ A4.out).mono ?_); rintro e w9 ⟨v134, rfl, ho0, hb⟩; refine ⟨_, rfl, ?_⟩; have n0_ := Aside0.mk (Kd.R_lower ho0 (below_size (by repeat (first | (with_reducible first | exact HB.out | apply below_alloc | apply pw_below_drewN | apply below_drew1) | exact HB.out)))); have n1_ := Aside0.mk (below_step (by repeat (first | (with_reducible first | exact HB.out | apply below_alloc | apply pw_below_drewN | apply below_drew1) | exact HB.out)) hb); clear HB; have HO135 := n0_; have HB := n1_; clear n0_ n1_; (try clear hb); (try clear hb2); (try clear hk); (try clear hi); (try clear ho0)) | (go_at_call 21; (with_reducible refine (delta_alike.calls _ _ l2 true _ ?side1 ?side2 A7.out).mono ?_); (case side1 => repeat (first | exact (Kd.C_below HR2.out HB.out) | (with_reducible refine Kd.C_alloc ?_ _) | (with_reducible refine Kd.C_drewN ?_ _) | (with_reducible refine Kd.C_drew ?_))); (case side2 => exact HC2.out); rintro e w10 ⟨rfl, hb⟩; have n0_ := Aside0.mk (Kd.R_below (by (with_reducible repeat (first | apply Kd.R_alloc | apply Kd.R_drewN | apply Kd.R_drew)); exact HO135.out) hb); have n1_ := Aside0.mk (below_step (by repeat (first | (with_reducible first | exact HB.out | apply below_alloc | apply pw_below_drewN | apply below_drew1) | exact HB.out)) hb); clear HO135; clear HB; have HO135 := n0_; have HB := n1_; clear n0_ n1_; (try clear hb); (try clear hb2); (try clear hk); (try clear hi)))
        go_ret
        exact ⟨by first | rfl | (simp [errW_none, errW_some] <;> rfl) | (simp [*, errW_none, errW_some] <;> rfl), by repeat (first | (with_reducible first | exact HB.out | apply below_alloc | apply pw_below_drewN | apply below_drew1) | exact HB.out)⟩
      · replace c8 := Bool.eq_false_iff.mpr c8
        subst c8
        have H1 : (some 40) = some r := by rw [if_neg (show ¬ (false = true) by decide)] at H; exact H
        clear H
        have H := H1
        clear H1
        obtain rfl := Option.some.inj H
        go_enter Try.func23, Try.ntmps23
        go_wp2_with (first | ((with_reducible refine gate_callee (f := 28) rfl ?_); refine goesL_ (some 12) rfl rfl Try.func28 (by kernel_rfl) rfl #[.int .i64 a0, .int .i64 a1, .int .i64 0] rfl (by (try simp only [List.map_toArray, List.map_cons, List.map_nil]); first | done | rfl | (simp only [List.length_drop, List.length_take]; rfl)) ?_; (with_reducible refine (codec_Row.calls a0 a1 0 t132 t133 _ A4.out).mono ?_); rintro e w11 ⟨v134, rfl, ho0, hb⟩; refine ⟨_, rfl, ?_⟩; have n0_ := Aside0.mk (Kd.R_lower ho0 (below_size (by repeat (first | (with_reducible first | exact HB.out | apply below_alloc | apply pw_below_drewN | apply below_drew1) | exact HB.out)))); have n1_ := Aside0.mk (below_step (by repeat (first | (with_reducible first | exact HB.out | apply below_alloc | apply pw_below_drewN | apply below_drew1) | exact HB.out)) hb); clear HB; have HO135 := n0_; have HB := n1_; clear n0_ n1_; (try clear hb); (try clear hb2); (try clear hk); (try clear hi); (try clear ho0)) | (go_at_call 21; (with_reducible refine (delta_alike.calls _ _ l2 false _ ?side1 ?side2 A7.out).mono ?_); (case side1 => repeat (first | exact (Kd.C_below HR2.out HB.out) | (with_reducible refine Kd.C_alloc ?_ _) | (with_reducible refine Kd.C_drewN ?_ _) | (with_reducible refine Kd.C_drew ?_))); (case side2 => exact HC2.out); rintro e w12 ⟨rfl, hb⟩; have n0_ := Aside0.mk (Kd.R_below (by (with_reducible repeat (first | apply Kd.R_alloc | apply Kd.R_drewN | apply Kd.R_drew)); exact HO135.out) hb); have n1_ := Aside0.mk (below_step (by repeat (first | (with_reducible first | exact HB.out | apply below_alloc | apply pw_below_drewN | apply below_drew1) | exact HB.out)) hb); clear HO135; clear HB; have HO135 := n0_; have HB := n1_; clear n0_ n1_; (try clear hb); (try clear hb2); (try clear hk); (try clear hi)))
        go_ret
        exact ⟨by first | rfl | (simp [errW_none, errW_some] <;> rfl) | (simp [*, errW_none, errW_some] <;> rfl), by repeat (first | (with_reducible first | exact HB.out | apply below_alloc | apply pw_below_drewN | apply below_drew1) | exact HB.out)⟩
    · rw [if_neg c6] at H
      have c6b0 : ((l2.length : Int) == a1) = false := beq_eq_false_iff_ne.mpr c6
      have c6b1 : ((l2.length : Int) != a1) = true := bne_iff_ne.mpr c6
      obtain rfl := Option.some.inj H
      go_enter Try.func23, Try.ntmps23
      go_wp2_with (first | ((with_reducible refine gate_callee (f := 28) rfl ?_); refine goesL_ (some 12) rfl rfl Try.func28 (by kernel_rfl) rfl #[.int .i64 a0, .int .i64 a1, .int .i64 0] rfl (by (try simp only [List.map_toArray, List.map_cons, List.map_nil]); first | done | rfl | (simp only [List.length_drop, List.length_take]; rfl)) ?_; (with_reducible refine (codec_Row.calls a0 a1 0 t132 t133 _ A4.out).mono ?_); rintro e w13 ⟨v134, rfl, ho0, hb⟩; refine ⟨_, rfl, ?_⟩; have n0_ := Aside0.mk (Kd.R_lower ho0 (below_size (by repeat (first | (with_reducible first | exact HB.out | apply below_alloc | apply pw_below_drewN | apply below_drew1) | exact HB.out)))); have n1_ := Aside0.mk (below_step (by repeat (first | (with_reducible first | exact HB.out | apply below_alloc | apply pw_below_drewN | apply below_drew1) | exact HB.out)) hb); clear HB; have HO135 := n0_; have HB := n1_; clear n0_ n1_; (try clear hb); (try clear hb2); (try clear hk); (try clear hi); (try clear ho0)))
      go_ret
      exact ⟨by first | rfl | (simp [errW_none, errW_some] <;> rfl) | (simp [*, errW_none, errW_some] <;> rfl), by repeat (first | (with_reducible first | exact HB.out | apply below_alloc | apply pw_below_drewN | apply below_drew1) | exact HB.out)⟩
  · rw [if_neg c5] at H
    have c5b0 : (t133 == 0) = false := beq_eq_false_iff_ne.mpr c5
    have c5b1 : (t133 != 0) = true := bne_iff_ne.mpr c5
    obtain rfl := Option.some.inj H
    go_enter Try.func23, Try.ntmps23
    go_wp2_with (first | ((with_reducible refine gate_callee (f := 28) rfl ?_); refine goesL_ (some 12) rfl rfl Try.func28 (by kernel_rfl) rfl #[.int .i64 a0, .int .i64 a1, .int .i64 0] rfl (by (try simp only [List.map_toArray, List.map_cons, List.map_nil]); first | done | rfl | (simp only [List.length_drop, List.length_take]; rfl)) ?_; (with_reducible refine (codec_Row.calls a0 a1 0 t132 t133 _ A4.out).mono ?_); rintro e w14 ⟨v134, rfl, ho0, hb⟩; refine ⟨_, rfl, ?_⟩; have n0_ := Aside0.mk (Kd.R_lower ho0 (below_size (by repeat (first | (with_reducible first | exact HB.out | apply below_alloc | apply pw_below_drewN | apply below_drew1) | exact HB.out)))); have n1_ := Aside0.mk (below_step (by repeat (first | (with_reducible first | exact HB.out | apply below_alloc | apply pw_below_drewN | apply below_drew1) | exact HB.out)) hb); clear HB; have HO135 := n0_; have HB := n1_; clear n0_ n1_; (try clear hb); (try clear hb2); (try clear hk); (try clear hi); (try clear ho0)))
    go_ret
    exact ⟨by first | rfl | (simp [errW_none, errW_some] <;> rfl) | (simp [*, errW_none, errW_some] <;> rfl), by repeat (first | (with_reducible first | exact HB.out | apply below_alloc | apply pw_below_drewN | apply below_drew1) | exact HB.out)⟩

/-! ### slices_Index_int_int: function 40 -/
def slices_Index_int_int.l0 : Nat → List Int → Int → Int → Int → Option (Int)
  | 0, _, _, _, _ => none
  | k + 1, x0, x1, x7, x8 => if x8 < x7 then (if 0 ≤ x8 then (if x8 < (x0.length : Int) then (if x1 = (rd x0 x8) then (some x8) else (slices_Index_int_int.l0 k x0 x1 x7 (wrap64 (x8 + 1)))) else (none)) else (none)) else (some (-1))
def slices_Index_int_int.f (k : Nat) (l0 : List Int) (a1 : Int) : Option (Int) := slices_Index_int_int.l0 k l0 a1 (l0.length : Int) 0
theorem slices_Index_int_int.mono_l : ∀ k, (∀ y0 y1 y2 y3, LeO (slices_Index_int_int.l0 k y0 y1 y2 y3) (slices_Index_int_int.l0 (k + 1) y0 y1 y2 y3))
  | 0 => fun _ _ _ _ r h => by simp [slices_Index_int_int.l0] at h
  | k + 1 => by
    have ih0 := slices_Index_int_int.mono_l k
    · intro y0 y1 y2 y3
      unfold slices_Index_int_int.l0
      repeat' first
      | (with_reducible exact ih0 _ _ _ _)
      | (with_reducible exact LeO.refl _)
      | (with_reducible exact LeO.none _)
      | (with_reducible refine LeO.ite ?_ ?_)
      | (with_reducible refine LeO.bind ?_ (fun _ => ?_))
      | exact ih0 _ _ _ _
      | exact LeO.none _
      | refine LeO.ite ?_ ?_
      | refine LeO.bind ?_ (fun _ => ?_)
theorem slices_Index_int_int.mono : ∀ a0 a1 k, LeO (slices_Index_int_int.f k a0 a1) (slices_Index_int_int.f (k + 1) a0 a1) := by
  intro a0 a1 k
  have ih0 := slices_Index_int_int.mono_l k
  unfold slices_Index_int_int.f
  repeat' first
      | (with_reducible exact ih0 _ _ _ _)
      | (with_reducible exact LeO.refl _)
      | (with_reducible exact LeO.none _)
      | (with_reducible refine LeO.ite ?_ ?_)
      | (with_reducible refine LeO.bind ?_ (fun _ => ?_))
      | exact ih0 _ _ _ _
      | exact LeO.none _
      | refine LeO.ite ?_ ?_
      | refine LeO.bind ?_ (fun _ => ?_)
set_option maxHeartbeats 8000000 in
set_option maxRecDepth 100000 in
theorem slices_Index_int_int.calls (k : Nat) (A0 : Option Addr) (c0 : Nat) (l0 : List Int) (a1 : Int) (r : Int) (w : World) (hr0 : Kd.C (Kd.int .i64) w A0 l0.length l0) (hc0 : l0.length ≤ c0) (h : slices_Index_int_int.f k l0 a1 = some r) :
    Calls Try.prog 40 #[.slice A0 l0.length c0, .int .i64 a1] w fun e w' => e = .returned (.int .i64 r) ∧ Drawn0 w w' := by
  have HR0 := Aside0.mk hr0
  have HC0 := Aside0.mk hc0
  clear hr0 hc0
  have H : (slices_Index_int_int.l0 k l0 a1 (l0.length : Int) 0) = some r := h
  clear h
  have H' := Aside0.mk H
  clear H
  go_enter Try.func40, Try.ntmps40
  go_wp2
  go_loopg [8] k (fun kq v8 w' => ∃ (x8_1 : Int), v8 = .int .i64 x8_1 ∧ Aside0 (slices_Index_int_int.l0 kq l0 a1 (l0.length : Int) x8_1 = some r) ∧ Aside0 (kq ≤ k) ∧ Drawn0 w w')
  case atStart => exact ⟨(0), (by first | rfl | (simp; done) | (simp [*]; done)), H', ⟨Nat.le_refl _⟩, by repeat (first | exact Drawn0.refl _ | apply Drawn0.step)⟩
  case round =>
    clear H'
    try clear p2
    obtain ⟨x8_1, rfl, HA, HK1, ⟨m1, rfl⟩⟩ := hrel
    cases gk with
    | zero => exact absurd HA.out (by simp [slices_Index_int_int.l0])
    | succ k1 =>
      have H := HA.out
      clear HA
      simp only [slices_Index_int_int.l0] at H
      by_cases c3 : x8_1 < (l0.length : Int)
      · rw [if_pos c3] at H
        have c3b0 : decide (x8_1 < (l0.length : Int)) = true := decide_eq_true c3
        clear c3
        by_cases c4 : 0 ≤ x8_1
        · rw [if_pos c4] at H
          have c4b0 : decide (0 ≤ x8_1) = true := decide_eq_true c4
          clear c4
          by_cases c5 : x8_1 < (l0.length : Int)
          · rw [if_pos c5] at H
            have c5b0 : decide (x8_1 < (l0.length : Int)) = true := decide_eq_true c5
            clear c5
            by_cases c6 : a1 = (rd l0 x8_1)
            · rw [if_pos c6] at H
              have c6b0 : (a1 == (rd l0 x8_1)) = true := beq_iff_eq.mpr c6
              have c6b1 : (a1 != (rd l0 x8_1)) = false := bne_eq_false_iff_eq.mpr c6
              clear c6
              obtain rfl := Option.some.inj H
              have p137 : 0 ≤ (x8_1 : Int) := of_decide_eq_true (by first | (with_reducible assumption) | assumption)
              have q137 : x8_1 < (l0.length : Int) := of_decide_eq_true (by first | (with_reducible assumption) | assumption)
              obtain ⟨ad137, e137, hx137_0⟩ := Kd.at_int HR0.out x8_1 p137 q137
              cases e137
              replace p137 := eq_true p137
              replace q137 := eq_true q137
              go_wp2
              go_ret
              exact ⟨by first | rfl | (simp; done) | (simp [*]; done), by repeat (first | exact Drawn0.refl _ | apply Drawn0.step)⟩
            · rw [if_neg c6] at H
              have c6b0 : (a1 == (rd l0 x8_1)) = false := beq_eq_false_iff_ne.mpr c6
              have c6b1 : (a1 != (rd l0 x8_1)) = true := bne_iff_ne.mpr c6
              have H' := Aside0.mk H
              clear H
              have p137 : 0 ≤ (x8_1 : Int) := of_decide_eq_true (by first | (with_reducible assumption) | assumption)
              have q137 : x8_1 < (l0.length : Int) := of_decide_eq_true (by first | (with_reducible assumption) | assumption)
              obtain ⟨ad137, e137, hx137_0⟩ := Kd.at_int HR0.out x8_1 p137 q137
              cases e137
              replace p137 := eq_true p137
              replace q137 := eq_true q137
              go_wp2
              go_roundg k1
              case measure => have := HK1.out; omega
              case rel => exact ⟨(wrap64 (x8_1 + 1)), (by first | rfl | (simp; done) | (simp [*]; done)), H', ⟨by have := HK1.out; omega⟩, by repeat (first | exact Drawn0.refl _ | apply Drawn0.step)⟩
          · rw [if_neg c5] at H
            exact absurd H (by simp)
        · rw [if_neg c4] at H
          exact absurd H (by simp)
      · rw [if_neg c3] at H
        have c3b0 : decide (x8_1 < (l0.length : Int)) = false := decide_eq_false c3
        clear c3
        obtain rfl := Option.some.inj H
        go_wp2
        go_ret
        exact ⟨by first | rfl | (simp; done) | (simp [*]; done), by repeat (first | exact Drawn0.refl _ | apply Drawn0.step)⟩

/-! ### slices_Contains_int_int: function 24 -/
def slices_Contains_int_int.f (k : Nat) (l0 : List Int) (a1 : Int) : Option (Bool) := (slices_Index_int_int.f k l0 a1).bind fun t138 => (some (decide (t138 ≥ 0)))
theorem slices_Contains_int_int.mono : ∀ a0 a1 k, LeO (slices_Contains_int_int.f k a0 a1) (slices_Contains_int_int.f (k + 1) a0 a1) := by
  intro a0 a1 k
  unfold slices_Contains_int_int.f
  repeat' first
      | (with_reducible exact slices_Index_int_int.mono _ _ _)
      | (with_reducible exact LeO.refl _)
      | (with_reducible exact LeO.none _)
      | (with_reducible refine LeO.ite ?_ ?_)
      | (with_reducible refine LeO.bind ?_ (fun _ => ?_))
      | exact slices_Index_int_int.mono _ _ _
      | exact LeO.none _
      | refine LeO.ite ?_ ?_
      | refine LeO.bind ?_ (fun _ => ?_)
set_option maxHeartbeats 8000000 in
set_option maxRecDepth 100000 in
theorem slices_Contains_int_int.calls (k : Nat) (A0 : Option Addr) (c0 : Nat) (l0 : List Int) (a1 : Int) (r : Bool) (w : World) (hr0 : Kd.C (Kd.int .i64) w A0 l0.length l0) (hc0 : l0.length ≤ c0) (h : slices_Contains_int_int.f k l0 a1 = some r) :
    Calls Try.prog 24 #[.slice A0 l0.length c0, .int .i64 a1] w fun e w' => e = .returned (.bool r) ∧ Drawn0 w w' := by
  have HR0 := Aside0.mk hr0
  have HC0 := Aside0.mk hc0
  clear hr0 hc0
  have H : ((slices_Index_int_int.f k l0 a1).bind fun t138 => (some (decide (t138 ≥ 0)))) = some r := h
  clear h
  replace H := Option.bind_eq_some_iff.mp H
  obtain ⟨t138, A30, H⟩ := H
  replace H : (some (decide (t138 ≥ 0))) = some r := H
  have A3 := Aside0.mk A30
  clear A30
  obtain rfl := Option.some.inj H
  go_enter Try.func24, Try.ntmps24
  go_wp2_with (first | ((with_reducible refine gate_callee (f := 40) rfl ?_); refine goesL_ (some 7) rfl rfl Try.func40 (by kernel_rfl) rfl #[.slice A0 l0.length c0, .int .i64 a1] rfl (by (try simp only [List.map_toArray, List.map_cons, List.map_nil]); first | done | rfl | (simp only [List.length_drop, List.length_take]; rfl)) ?_; (with_reducible refine (slices_Index_int_int.calls k _ _ l0 a1 t138 _ ?side1 ?side2 A3.out).mono ?_); (case side1 => repeat (first | exact HR0.out | (with_reducible refine Kd.C_alloc ?_ _) | (with_reducible refine Kd.C_drewN ?_ _) | (with_reducible refine Kd.C_drew ?_))); (case side2 => exact HC0.out); rintro e w' ⟨rfl, ⟨nd, rfl⟩⟩; refine ⟨_, rfl, ?_⟩))
  go_ret
  exact ⟨by first | rfl | (simp; done) | (simp [*]; done), by repeat (first | exact Drawn0.refl _ | apply Drawn0.step)⟩

-- NOT PRINTED: function 41 (slices_Grow_byte_byte)

-- NOT PRINTED: function 25 (slices_Concat_byte_byte)

-- NOT PRINTED: function 26 (delta_summed)

end Go.Proofs.Ytmmbojeikppinaa.PE
