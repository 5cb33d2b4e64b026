import Derived.Test.YthhncoogmncdkaaPCx0
import Derived.Test.YthhncoogmncdkaaPCx11
import Derived.Test.YthhncoogmncdkaaLin
import Derived.Test.YthhncoogmncdkaaPCx12
-- written by the session's own program (wip/prt.py) over the kit's print: not print.sh's own text
namespace Go.Proofs.Ythhncoogmncdkaa.PC
open Go.RowKit Go.Proofs.YthhncoogmncdkaaW.PrintWords Go.Proofs.YthhncoogmncdkaaW.PrintLast Go.Proofs.YthhncoogmncdkaaW.PrintMore
attribute [local go_sem] max2_int min2_int max_two min_two max_three min_three max_four min_four   -- for this text's walks alone
set_option linter.unusedVariables false
set_option linter.unusedSimpArgs false

-- NOT PRINTED: function 52 (matrix_made)

/-! ### matrix_One: function 38 -/
def matrix_One.M (n : Nat) : List (List Int) := (List.range n).map (fun i => (List.range n).map (fun j => if i = j then (1 : Int) else 0))
def matrix_One.f (a0 : Int) : Option (List (List Int) × Int) := if a0 < 1 then some ([], 2) else if a0 > 32 then some ([], 2) else some (matrix_One.M a0.toNat, 0)
theorem matrix_One.lit (i j : Nat) (W : World) : Calls Try.prog 53 #[.int .i64 i, .int .i64 j] W fun e w' => e = .returned (.int .u8 (if i = j then (1 : Int) else 0)) ∧ Below W.heap.size W w' := by
  by_cases h : i = j
  · subst h
    have h1 : (((i : Int)) == (i : Int)) = true := beq_self_eq_true _
    go_enter Try.func53, Try.ntmps53
    go_wp2_with fail
    go_ret
    exact ⟨by simp, Below.refl _ _⟩
  · have h1 : (((i : Int)) == (j : Int)) = false := beq_eq_false_iff_ne.mpr (by omega)
    rw [if_neg h]
    clear h
    go_enter Try.func53, Try.ntmps53
    go_wp2_with fail
    go_ret
    exact ⟨rfl, Below.refl _ _⟩
theorem matrix_One.calls (a0 : Int) (r1 : List (List Int)) (r2 : Int) (w : World) (h : matrix_One.f a0 = some (r1, r2)) :
    Calls Try.prog 38 #[.int .i64 a0] w fun e w' => ∃ v0_ : Value, e = .returned (.tuple #[v0_, .int .i64 r2]) ∧ Kd.S (Kd.slice 5 (Kd.int .u8)) 23 w' w.heap.size (fun _ => True) v0_ r1 ∧ Below w.heap.size w w' := by
  unfold matrix_One.f at h
  by_cases h1 : a0 < 1
  · rw [if_pos h1] at h
    injection h with h; injection h with ha hb; subst ha hb
    go_enter Try.func38, Try.ntmps38
    go_wp2_with fail
    go_ret2
    exact ⟨_, rfl, Kd.S_nil _ _ _ _ _, Below.refl _ _⟩
  rw [if_neg h1] at h
  by_cases h2 : a0 > 32
  · rw [if_pos h2] at h
    injection h with h; injection h with ha hb; subst ha hb
    go_enter Try.func38, Try.ntmps38
    go_wp2_with fail
    go_ret2
    exact ⟨_, rfl, Kd.S_nil _ _ _ _ _, Below.refl _ _⟩
  rw [if_neg h2] at h
  injection h with h; injection h with ha hb; subst hb
  obtain ⟨n, rfl⟩ := Int.eq_ofNat_of_zero_le (show 0 ≤ a0 by omega)
  rw [Int.toNat_natCast] at ha
  have HA := Lib.hid ha
  have hX := made_One n n (fun i j => if i = j then 1 else 0) w (by omega) (by omega) (fun i j W _ _ _ => matrix_One.lit i j W)
  have HX := Lib.hid hX
  have hn : n ≤ 32 := by omega
  clear ha hX
  go_enter Try.func38, Try.ntmps38
  go_wp2_with fail
  refine HX.out.mono ?_
  rintro e w' ⟨b, rfl, hr, hb⟩
  have HR := Lib.hid hr
  have HB := Lib.hid hb
  clear hr hb
  go_wp2_with fail
  go_ret2
  refine ⟨_, rfl, ?_, HB.out⟩
  rw [← HA.out]
  exact HR.out.S (Nat.le_refl _) (by omega) (by omega)

/-! ### matrix_Cauchy: function 39 -/
def matrix_Cauchy.at_ (k : Int) (i j : Nat) : Int := Go.bits .xor .u8 (k + i) (j : Int)
def matrix_Cauchy.G (k : Int) (i j : Nat) : Int := ((gf_Inv.f (matrix_Cauchy.at_ k i j)).getD (0, 0)).1
def matrix_Cauchy.M (k r : Nat) : List (List Int) := (List.range r).map (fun (i : Nat) => (List.range k).map (fun (j : Nat) => matrix_Cauchy.G k i j))
def matrix_Cauchy.f (a0 a1 : Int) : Option (List (List Int) × Int) := if a0 < 1 then some ([], 2) else if a0 > 12 then some ([], 2) else if a1 < 1 then some ([], 2) else if a1 > 4 then some ([], 2) else if ∀ i, i < a1.toNat → ∀ j, j < a0.toNat → (gf_Inv.f (matrix_Cauchy.at_ a0 i j)).isSome = true then some (matrix_Cauchy.M a0.toNat a1.toNat, 0) else none
set_option maxHeartbeats 1000000 in
theorem matrix_Cauchy.lit (k : Int) (hk0 : 1 ≤ k) (hk1 : k ≤ 12) (g : Nat) (i j : Nat) (hi : i < 100) (hj : j < 100) (W : World) (hg : W.cell? ⟨g, 0, none⟩ = some (.int .i64 k)) (hs : (gf_Inv.f (matrix_Cauchy.at_ k i j)).isSome = true) :
    Calls Try.prog 54 #[.int .i64 i, .int .i64 j, .pointer (some ⟨g, 0, none⟩)] W fun e w' => e = .returned (.int .u8 (matrix_Cauchy.G k i j)) ∧ Below W.heap.size W w' := by
  obtain ⟨⟨x, y⟩, hx⟩ := Option.isSome_iff_exists.1 hs
  have HX := Lib.hid hx
  have HG := Lib.hid (show matrix_Cauchy.G k i j = x by unfold matrix_Cauchy.G; rw [hx]; rfl)
  have ha : gf_Add.f (k + i) (j : Int) = some (matrix_Cauchy.at_ k i j) := rfl
  have HA := Lib.hid ha
  have e2 : (j : Int) < 256 := by omega
  clear hs hx ha
  go_enter Try.func54, Try.ntmps54
  go_wp2_with fail
  refine (gf_Add.calls (k + i) (j : Int) (matrix_Cauchy.at_ k i j) _ HA.out).mono ?_
  rintro e w' ⟨rfl, ⟨nd, rfl⟩⟩
  go_wp2_with fail
  refine (gf_Inv.calls (matrix_Cauchy.at_ k i j) x y _ HX.out).mono ?_
  rintro e w' ⟨rfl, hb⟩
  have HB := Lib.hid (below_step (pw_below_drewN (Below.refl W.heap.size W) nd) hb)
  clear hb hg
  go_wp2_with fail
  go_ret
  exact ⟨by rw [HG.out]; rfl, HB.out⟩
set_option maxHeartbeats 4000000 in
theorem matrix_Cauchy.calls (a0 a1 : Int) (r1 : List (List Int)) (r2 : Int) (w : World) (h : matrix_Cauchy.f a0 a1 = some (r1, r2)) :
    Calls Try.prog 39 #[.int .i64 a0, .int .i64 a1] w fun e w' => ∃ v0_ : Value, e = .returned (.tuple #[v0_, .int .i64 r2]) ∧ Kd.S (Kd.slice 5 (Kd.int .u8)) 23 w' w.heap.size (fun _ => True) v0_ r1 ∧ Below w.heap.size w w' := by
  unfold matrix_Cauchy.f at h
  by_cases h1 : a0 < 1
  · rw [if_pos h1] at h
    injection h with h; injection h with ha hb; subst ha hb
    go_enter Try.func39, Try.ntmps39
    go_wp2_with fail
    go_ret2
    exact ⟨_, rfl, Kd.S_nil _ _ _ _ _, below_alloc (Below.refl _ _) _⟩
  rw [if_neg h1] at h
  by_cases h2 : a0 > 12
  · rw [if_pos h2] at h
    injection h with h; injection h with ha hb; subst ha hb
    have d1 : decide (a0 < 1) = false := decide_eq_false h1
    go_enter Try.func39, Try.ntmps39
    go_wp2_with fail
    go_ret2
    exact ⟨_, rfl, Kd.S_nil _ _ _ _ _, below_alloc (Below.refl _ _) _⟩
  rw [if_neg h2] at h
  by_cases h3 : a1 < 1
  · rw [if_pos h3] at h
    injection h with h; injection h with ha hb; subst ha hb
    have d1 : decide (a0 < 1) = false := decide_eq_false h1
    have d2 : decide (a0 > 12) = false := decide_eq_false h2
    go_enter Try.func39, Try.ntmps39
    go_wp2_with fail
    go_ret2
    exact ⟨_, rfl, Kd.S_nil _ _ _ _ _, below_alloc (Below.refl _ _) _⟩
  rw [if_neg h3] at h
  by_cases h4 : a1 > 4
  · rw [if_pos h4] at h
    injection h with h; injection h with ha hb; subst ha hb
    have d1 : decide (a0 < 1) = false := decide_eq_false h1
    have d2 : decide (a0 > 12) = false := decide_eq_false h2
    have d3 : decide (a1 < 1) = false := decide_eq_false h3
    go_enter Try.func39, Try.ntmps39
    go_wp2_with fail
    go_ret2
    exact ⟨_, rfl, Kd.S_nil _ _ _ _ _, below_alloc (Below.refl _ _) _⟩
  rw [if_neg h4] at h
  by_cases h5 : ∀ i, i < a1.toNat → ∀ j, j < a0.toNat → (gf_Inv.f (matrix_Cauchy.at_ a0 i j)).isSome = true
  case neg => rw [if_neg h5] at h; cases h
  rw [if_pos h5] at h
  injection h with h; injection h with ha hb; subst hb
  obtain ⟨k, rfl⟩ := Int.eq_ofNat_of_zero_le (show 0 ≤ a0 by omega)
  obtain ⟨r, rfl⟩ := Int.eq_ofNat_of_zero_le (show 0 ≤ a1 by omega)
  simp only [Int.toNat_natCast] at ha h5
  have HA := Lib.hid ha
  have HB := Lib.hid (below_alloc (Below.refl w.heap.size w) (.cells #[.int .i64 (k : Int)] 3))
  have HG := Lib.hid (blk_new w (.cells #[.int .i64 (k : Int)] 3))
  have hx0 : (w.alloc (.cells #[.int .i64 (k : Int)] 3)).cell? ⟨w.heap.size, 0, none⟩ = some (.int .i64 (k : Int)) := (blk_cell HG.out 0).trans rfl
  have hX := made_Cauchy r k (fun i j => matrix_Cauchy.G (k : Int) i j) (w.alloc (.cells #[.int .i64 (k : Int)] 3)) (by omega) (by omega) ⟨w.heap.size, 0, none⟩ (fun i j W hi hj hb => matrix_Cauchy.lit (k : Int) (by omega) (by omega) w.heap.size i j (by omega) (by omega) W ((hb.cell (p := ⟨w.heap.size, 0, none⟩) (by exact blk_lt HG.out)).trans hx0) (h5 i hi j hj))
  have HX := Lib.hid hX
  have hk : (k : Int) ≤ 12 := by omega
  have hr : (r : Int) ≤ 4 := by omega
  have hk1 : (1 : Int) ≤ k := by omega
  have hr1 : (1 : Int) ≤ r := by omega
  clear ha hX h5 h1 h2 h3 h4
  go_enter Try.func39, Try.ntmps39
  go_wp2_with fail
  refine HX.out.mono ?_
  rintro e w' ⟨b, rfl, hr, hb⟩
  have HR := Lib.hid hr
  have HB2 := Lib.hid (below_step HB.out hb)
  clear hr hb
  go_wp2_with fail
  go_ret2
  refine ⟨_, rfl, ?_, HB2.out⟩
  rw [← HA.out]
  have hs := HR.out.S HB.out.size (by omega) (by omega)
  simp only [sz] at hs
  exact hs

-- NOT PRINTED: function 23 (codec_made)

end Go.Proofs.Ythhncoogmncdkaa.PC
-- written by the session's own program (wip/prt.py) over the kit's print: not print.sh's own text
namespace Go.Proofs.Ythhncoogmncdkaa.PC
open Go.RowKit Go.Proofs.YthhncoogmncdkaaW.PrintWords Go.Proofs.YthhncoogmncdkaaW.PrintLast Go.Proofs.YthhncoogmncdkaaW.PrintMore
attribute [local go_sem] max2_int min2_int max_two min_two max_three min_three max_four min_four   -- for this text's walks alone
set_option linter.unusedVariables false
set_option linter.unusedSimpArgs false

/-! ### codec_Row: function 14 -/
/-- the rows of a code: the unit matrix, the parity below -/
def codec_Row.M (k r : Nat) : List (List Int) := matrix_One.M k ++ (if r = 0 then [] else matrix_Cauchy.M k r)
def codec_Row.bad (a0 a1 : Int) : Prop := a0 < 1 ∨ a0 > 12 ∨ a1 < 0 ∨ a1 > 4
instance codec_Row.dec1 (a0 a1 : Int) : Decidable (codec_Row.bad a0 a1) := by unfold codec_Row.bad; infer_instance
def codec_Row.inv (a0 a1 : Int) : Prop := ∀ i, i < a1.toNat → ∀ j, j < a0.toNat → (gf_Inv.f (matrix_Cauchy.at_ a0 i j)).isSome = true
instance codec_Row.dec2 (a0 a1 : Int) : Decidable (codec_Row.inv a0 a1) := by unfold codec_Row.inv; infer_instance
def codec_Row.f (a0 a1 a2 : Int) : Option (List Int × Int) := if in64 a0 ∧ in64 a1 ∧ in64 a2 then (if codec_Row.bad a0 a1 then some ([], 2) else if codec_Row.inv a0 a1 then (if 0 ≤ a2 ∧ a2 < a0 + a1 then some (rw_ (codec_Row.M a0.toNat a1.toNat) a2.toNat, 0) else some ([], 2)) else none) else none
theorem codec_Row.M_len (k r : Nat) : (codec_Row.M k r).length = k + r := by
  unfold codec_Row.M matrix_One.M
  by_cases h : r = 0
  · subst h; simp
  · rw [if_neg h]; simp [matrix_Cauchy.M]
theorem codec_Row.M_one {k r i : Nat} (h : i < k) : rw_ (codec_Row.M k r) i = rw_ (matrix_One.M k) i := by
  have hl : (matrix_One.M k).length = k := by simp [matrix_One.M]
  unfold codec_Row.M rw_
  rw [List.getD_eq_getElem?_getD, List.getD_eq_getElem?_getD, List.getElem?_append_left (by omega)]
theorem codec_Row.M_two {k r i : Nat} (h : i < r) : rw_ (codec_Row.M k r) (k + i) = rw_ (matrix_Cauchy.M k r) i := by
  have hl : (matrix_One.M k).length = k := by simp [matrix_One.M]
  unfold codec_Row.M rw_
  rw [if_neg (by omega), List.getD_eq_getElem?_getD, List.getD_eq_getElem?_getD, List.getElem?_append_right (by omega), hl, Nat.add_sub_cancel_left]
theorem codec_Row.in64_nat {i : Nat} (h : i ≤ 1000) : in64 (i : Int) := by unfold in64; simp only [Lit.wf, Bool.and_eq_true, decide_eq_true_eq]; exact ⟨Int.le_trans (b := 0) (by decide) (by omega), Int.le_trans (b := 1000) (by omega) (by decide)⟩
theorem codec_Row.keys {k r n i : Nat} (hk : k ≤ 12) (hr : r ≤ 4) (hi : i ≤ 16) : ∃ l, keyOf Try.prog 50 (pk k r i) = some l := pk_key (codec_Row.in64_nat (by omega)) (codec_Row.in64_nat (by omega)) (codec_Row.in64_nat (by omega))
theorem codec_Row.keys_ne {k r i j : Nat} (h : i ≠ j) : pk k r i ≠ pk k r j := fun z => h (by have := pk_inj z; omega)
theorem codec_Row.bad1 (a0 a1 : Int) (h : codec_Row.bad a0 a1) (w : World) : Calls Try.prog 23 #[.int .i64 a0, .int .i64 a1] w fun e w' => e = .returned (.map none) ∧ w = w' := by
  unfold codec_Row.bad at h
  by_cases h1 : a0 < 1
  · have d1 : decide (a0 < 1) = true := decide_eq_true h1
    clear h
    go_enter Try.func23, Try.ntmps23
    go_wp2_with fail
    go_ret
    exact ⟨rfl, rfl⟩
  have d1 : decide (a0 < 1) = false := decide_eq_false h1
  by_cases h2 : a0 > 12
  · have d2 : decide (a0 > 12) = true := decide_eq_true h2
    clear h
    go_enter Try.func23, Try.ntmps23
    go_wp2_with fail
    go_ret
    exact ⟨rfl, rfl⟩
  have d2 : decide (a0 > 12) = false := decide_eq_false h2
  by_cases h3 : a1 < 0
  · have d3 : decide (a1 < 0) = true := decide_eq_true h3
    clear h
    go_enter Try.func23, Try.ntmps23
    go_wp2_with fail
    go_ret
    exact ⟨rfl, rfl⟩
  have d3 : decide (a1 < 0) = false := decide_eq_false h3
  have d4 : decide (a1 > 4) = true := decide_eq_true (by omega)
  clear h
  go_enter Try.func23, Try.ntmps23
  go_wp2_with fail
  go_ret
  exact ⟨rfl, rfl⟩
set_option maxHeartbeats 4000000 in
set_option maxRecDepth 100000 in
theorem codec_Row.made (k r : Nat) (hk0 : 1 ≤ k) (hk : k ≤ 12) (hr : r ≤ 4) (hi : codec_Row.inv k r) (w : World) : Calls Try.prog 23 #[.int .i64 k, .int .i64 r] w fun e w' => ∃ (g : Nat) (val : Nat → Value), e = .returned (.map (some g)) ∧
      MapIs w' g (k + r) (fun i => pk k r i) val ∧ (∀ i, i < k + r → Kd.R (Kd.int .u8) 5 w' w.heap.size (fun _ => True) (val i) (rw_ (codec_Row.M k r) i)) ∧ Below w.heap.size w w' := by
  have hmm := @run_makeMap Try.prog
  have h1 : ¬ (k : Int) < 1 := by omega
  have h2 : ¬ (k : Int) > 12 := by omega
  have h3 : ¬ (r : Int) < 0 := by omega
  have h4 : ¬ (r : Int) > 4 := by omega
  have d1 : decide ((k : Int) < 1) = false := decide_eq_false h1
  have d2 : decide ((k : Int) > 12) = false := decide_eq_false h2
  have d3 : decide ((r : Int) < 0) = false := decide_eq_false h3
  have d4 : decide ((r : Int) > 4) = false := decide_eq_false h4
  have ho : matrix_One.f (k : Int) = some (matrix_One.M k, 0) := by
    unfold matrix_One.f; rw [if_neg (by omega), if_neg (by omega), Int.toNat_natCast]
  have HO := Lib.hid ho
  have HK := Lib.hid hk
  have HR := Lib.hid hr
  have HI := Lib.hid hi
  have HK0 := Lib.hid hk0
  clear ho hi h1 h2 h3 h4 hk hr hk0
  go_enter Try.func23, Try.ntmps23
  go_wp2_with fail
  have HB := Lib.hid (below_alloc (Below.refl w.heap.size w) (.map #[] 0))
  have HMP := Lib.hid (MapIs.new w (fun i => pk k r i) (fun _ => undef))
  generalize w.alloc (.map #[] 0) = w1 at HB HMP ⊢
  have HGE := Lib.hid (Nat.le_refl w.heap.size)
  have HGL := Lib.hid HMP.out.lt
  generalize hgq : w.heap.size = g at HMP HGE HGL ⊢
  rw [← hgq] at HGE
  have HGQ := Lib.hid hgq
  clear hgq
  refine (matrix_One.calls (k : Int) (matrix_One.M k) 0 _ HO.out).mono ?_
  rintro e' w2 ⟨v1, rfl, ho, hb⟩
  have hkk := HK0.out
  obtain ⟨g1, cap1, b1, c1, rfl, -, hM⟩ := Mat.of_S (m := k) ho (by simp [matrix_One.M]) (by simp [matrix_One.M]; omega) hkk
  have hml : (matrix_One.M k).length = k := by simp [matrix_One.M]
  rw [hml]
  have HM := Lib.hid (hM.mono (S' := fun q => g < q ∧ w.heap.size ≤ q) (fun q hq => ⟨Nat.lt_of_lt_of_le HGL.out hq, Nat.le_trans HB.out.size hq⟩))
  have HML := Lib.hid hml
  replace HMP := Lib.hid (HMP.out.below hb)
  replace HB := Lib.hid (below_step HB.out hb)
  clear ho hb hM hkk hml HGL
  go_wp2_with fail
  go_loopg [8, 9, 36] k (fun gk s8 s9 s36 wx => ∃ i : Nat, i + gk = k ∧ s36 = .int .i64 i ∧ Hid (MapIs wx g i (fun i => pk k r i) (fun i => .slice (some ⟨b1 i, 0, none⟩) k (c1 i))) ∧ Hid (Mat wx (fun q => g < q ∧ w.heap.size ≤ q) g1 cap1 b1 c1 (matrix_One.M k) k) ∧ Hid (Below w.heap.size w wx))
  case atStart => exact ⟨0, by omega, rfl, Lib.hid (HMP.out.congr (fun i hi => absurd hi (by omega))), HM, HB⟩
  case round =>
    clear HMP HM HB
    obtain ⟨i, hig, rfl, HMP, HM, HB⟩ := hrel
    have hle : (i : Int) ≤ (k : Int) := by omega
    cases gk with
    | succ d =>
      have hlt : (i : Int) < (k : Int) := by omega
      have hx := HM.out.out (i := i) (by rw [HML.out]; omega)
      obtain ⟨o, hput, hnew⟩ := HMP.out.put (fun j hj => codec_Row.keys (n := 0) HK.out HR.out (by have := HK.out; omega)) (fun j hj => codec_Row.keys_ne (by omega))
      have HN := Lib.hid hnew
      have HM2 := Lib.hid (HM.out.keep (W' := ChangeMaps.setBlock wr g o) (fun q hq => put_other (by have := hq.1; omega) o HMP.out.lt))
      have HB2 := Lib.hid (put_below HB.out (Nat.le_of_eq HGQ.out) o HMP.out.lt)
      simp only [pk] at hput
      have hw : wrap64 ((i : Int) + 1) = ((i + 1 : Nat) : Int) := by have := HK.out; unfold wrap64; omega
      have HW := Lib.hid hw
      clear hnew hw HMP HM HB hle
      go_wp2_with fail
      go_roundg d
      case measure => omega
      case rel => exact ⟨i + 1, by omega, by rw [HW.out], HN, HM2, HB2⟩
    | zero =>
      obtain rfl : i = k := by omega
      clear hle hig
      by_cases hr0 : r = 0
      case pos =>
        subst hr0
        have d5 : decide (((0 : Nat) : Int) > 0) = false := by decide
        go_wp2_with fail
        go_ret
        refine ⟨g, _, rfl, HMP.out, fun q hq => ?_, HB.out⟩
        rw [codec_Row.M_one (by omega)]
        exact Kd.R_mono (HM.out.R (i := q) (by rw [HML.out]; omega) (HM.out.2.2.1 q (by rw [HML.out]; omega)).2.1.2) (fun _ _ => trivial)
      have d5 : decide ((r : Int) > 0) = true := decide_eq_true (by omega)
      have d6 : (0 : Int) < (r : Int) := by omega
      have hc : matrix_Cauchy.f (i : Int) (r : Int) = some (matrix_Cauchy.M i r, 0) := by
        have := HR.out; have := HK.out; have := HK0.out
        unfold matrix_Cauchy.f; rw [if_neg (by omega), if_neg (by omega), if_neg (by omega), if_neg (by omega), if_pos (by simpa [codec_Row.inv] using HI.out)]; simp
      have HC := Lib.hid hc
      have HR0 := Lib.hid hr0
      clear hc hr0
      go_wp2_with fail
      refine (matrix_Cauchy.calls (i : Int) (r : Int) (matrix_Cauchy.M i r) 0 _ HC.out).mono ?_
      rintro e' w3 ⟨v2, rfl, ho, hb⟩
      have hkk := HK0.out
      have hcl : (matrix_Cauchy.M i r).length = r := by simp [matrix_Cauchy.M]
      obtain ⟨g2, cap2, b2, c2, rfl, -, hM⟩ := Mat.of_S (m := i) ho (by simp [matrix_Cauchy.M]) (by have := HR0.out; omega) hkk
      rw [hcl]
      have HM2 := Lib.hid (hM.mono (S' := fun q => g < q ∧ w.heap.size ≤ q) (fun q hq => ⟨Nat.lt_of_lt_of_le HMP.out.lt hq, Nat.le_trans HB.out.size hq⟩))
      have HCL := Lib.hid hcl
      replace HMP := Lib.hid (HMP.out.below hb)
      replace HM := Lib.hid (HM.out.below hb)
      replace HB := Lib.hid (below_step HB.out hb)
      clear ho hb hM hkk hcl
      go_wp2_with fail
      go_loopg [12, 13, 58] r (fun gk s12 s13 s58 wx => ∃ j : Nat, j + gk = r ∧ s58 = .int .i64 j ∧ Hid (MapIs wx g (i + j) (fun q => pk i r q) (fun q => if q < i then .slice (some ⟨b1 q, 0, none⟩) i (c1 q) else .slice (some ⟨b2 (q - i), 0, none⟩) i (c2 (q - i)))) ∧ Hid (Mat wx (fun q => g < q ∧ w.heap.size ≤ q) g1 cap1 b1 c1 (matrix_One.M i) i) ∧ Hid (Mat wx (fun q => g < q ∧ w.heap.size ≤ q) g2 cap2 b2 c2 (matrix_Cauchy.M i r) i) ∧ Hid (Below w.heap.size w wx))
      case atStart => exact ⟨0, by omega, rfl, Lib.hid (HMP.out.congr (fun q hq => by rw [if_pos (by omega)])), HM, HM2, HB⟩
      case round =>
        clear HMP HM HM2 HB
        obtain ⟨j, hjg, rfl, HMP, HM, HM2, HB⟩ := hrel
        have hle : (j : Int) ≤ (r : Int) := by omega
        cases gk with
        | succ d =>
          have hlt : (j : Int) < (r : Int) := by omega
          have hx := HM2.out.out (i := j) (by rw [HCL.out]; omega)
          obtain ⟨o, hput, hnew⟩ := HMP.out.put (fun q hq => codec_Row.keys (n := 0) HK.out HR.out (by have := HK.out; have := HR.out; omega)) (fun q hq => codec_Row.keys_ne (by omega))
          have HN := Lib.hid hnew
          have HM3 := Lib.hid (HM.out.keep (W' := ChangeMaps.setBlock wr g o) (fun q hq => put_other (by have := hq.1; omega) o HMP.out.lt))
          have HM4 := Lib.hid (HM2.out.keep (W' := ChangeMaps.setBlock wr g o) (fun q hq => put_other (by have := hq.1; omega) o HMP.out.lt))
          have HB2 := Lib.hid (put_below HB.out (Nat.le_of_eq HGQ.out) o HMP.out.lt)
          simp only [pk] at hput
          rw [if_neg (by omega), show i + j - i = j by omega, show ((i + j : Nat) : Int) = (i : Int) + (j : Int) by omega] at hput
          have hw : wrap64 ((j : Int) + 1) = ((j + 1 : Nat) : Int) := by have := HR.out; unfold wrap64; omega
          have hw2 : wrap64 ((i : Int) + (j : Int)) = (i : Int) + (j : Int) := by have := HR.out; have := HK.out; unfold wrap64; omega
          have hb1 : (i : Int) ≤ 12 := by have := HK.out; omega
          have hb2 : (r : Int) ≤ 4 := by have := HR.out; omega
          have HW := Lib.hid hw
          clear hnew hw hw2 HMP HM HM2 HB hle
          go_wp2_with fail
          go_roundg d
          case measure => omega
          case rel => exact ⟨j + 1, by omega, by first | rw [HW.out] | (simp; done), HN, HM3, HM4, HB2⟩
        | zero =>
          obtain rfl : j = r := by omega
          go_wp2_with fail
          go_ret
          refine ⟨g, _, rfl, HMP.out, fun q hq => ?_, HB.out⟩
          by_cases hqi : q < i
          · rw [codec_Row.M_one hqi, if_pos hqi]
            exact Kd.R_mono (HM.out.R (i := q) (by rw [HML.out]; omega) (HM.out.2.2.1 q (by rw [HML.out]; omega)).2.1.2) (fun _ _ => trivial)
          · obtain ⟨p, rfl⟩ : ∃ p, q = i + p := ⟨q - i, by omega⟩
            rw [codec_Row.M_two (by omega), if_neg hqi, show i + p - i = p by omega]
            exact Kd.R_mono (HM2.out.R (i := p) (by rw [HCL.out]; omega) (HM2.out.2.2.1 p (by rw [HCL.out]; omega)).2.1.2) (fun _ _ => trivial)
theorem codec_Row.zero (w : World) : (zeroValue 23).run Try.prog w = .ok (.slice none 0 0) w := by kernel_rfl
theorem codec_Row.calls (a0 a1 a2 : Int) (r1 : List Int) (r2 : Int) (w : World) (h : codec_Row.f a0 a1 a2 = some (r1, r2)) :
    Calls Try.prog 14 #[.int .i64 a0, .int .i64 a1, .int .i64 a2] w fun e w' => ∃ v0_ : Value, e = .returned (.tuple #[v0_, .int .i64 r2]) ∧ Kd.R (Kd.int .u8) 5 w' w.heap.size (fun _ => True) v0_ r1 ∧ Below w.heap.size w w' := by
  unfold codec_Row.f at h
  by_cases h64 : in64 a0 ∧ in64 a1 ∧ in64 a2
  case neg => rw [if_neg h64] at h; cases h
  rw [if_pos h64] at h
  have hkey := pk_key h64.1 h64.2.1 h64.2.2
  by_cases hb : codec_Row.bad a0 a1
  · rw [if_pos hb] at h
    injection h with h; injection h with ha hc; subst ha hc
    have HBAD := Lib.hid hb
    have HL := Lib.hid (fun W : World => look_nil W (.slice none 0 0) (codec_Row.zero W) true hkey)
    clear hb hkey h64
    go_enter Try.func14, Try.ntmps14
    go_wp2_with fail
    refine (codec_Row.bad1 a0 a1 HBAD.out _).mono ?_
    rintro e' w1 ⟨rfl, rfl⟩
    have hl := HL.out w
    simp only [pk, if_true] at hl
    go_wp2_with fail
    go_ret2
    exact ⟨_, rfl, Kd.R_nil _ _ _ _ _, Below.refl _ _⟩
  rw [if_neg hb] at h
  by_cases hi : codec_Row.inv a0 a1
  case neg => rw [if_neg hi] at h; cases h
  rw [if_pos hi] at h
  unfold codec_Row.bad at hb
  obtain ⟨k, rfl⟩ := Int.eq_ofNat_of_zero_le (show 0 ≤ a0 by omega)
  obtain ⟨r, rfl⟩ := Int.eq_ofNat_of_zero_le (show 0 ≤ a1 by omega)
  simp only [Int.toNat_natCast] at h
  have hk0 : 1 ≤ k := by omega
  have hk : k ≤ 12 := by omega
  have hr : r ≤ 4 := by omega
  have HI := Lib.hid hi
  have HK0 := Lib.hid hk0
  have HK := Lib.hid hk
  have HR := Lib.hid hr
  have HKEY := Lib.hid hkey
  have H := Lib.hid h
  clear hb hi hkey h64 hk0 hk hr h
  go_enter Try.func14, Try.ntmps14
  go_wp2_with fail
  refine (codec_Row.made k r HK0.out HK.out HR.out HI.out _).mono ?_
  rintro e' w1 ⟨g, val, rfl, hmp, hrow, hb⟩
  have HB := Lib.hid hb
  rcases hmp.look (fun i hi => codec_Row.keys (n := 0) HK.out HR.out (by have := HK.out; have := HR.out; omega)) (.slice none 0 0) (codec_Row.zero w1) true HKEY.out with ⟨i, hi, hx, hl⟩ | ⟨hno, hl⟩
  · have e2 := pk_inj hx
    subst e2
    have h := H.out
    rw [if_pos ⟨by omega, by omega⟩, Int.toNat_natCast] at h
    injection h with h; injection h with ha hc; subst ha hc
    have HRW := Lib.hid (hrow i hi)
    simp only [pk, if_true] at hl
    clear hmp hrow hb hx H
    go_wp2_with fail
    go_ret2
    exact ⟨_, rfl, HRW.out, HB.out⟩
  · have h := H.out
    rw [if_neg (fun z => hno a2.toNat (by omega) (by rw [show ((a2.toNat : Nat) : Int) = a2 by omega]))] at h
    injection h with h; injection h with ha hc; subst ha hc
    simp only [pk, if_true] at hl
    clear hmp hrow hb hno H
    go_wp2_with fail
    go_ret2
    exact ⟨_, rfl, Kd.R_nil _ _ _ _ _, HB.out⟩

end Go.Proofs.Ythhncoogmncdkaa.PC
-- written by the session's own program (wip/prt.py) over the kit's print: not print.sh's own text
namespace Go.Proofs.Ythhncoogmncdkaa.PC
open Go.RowKit Go.Proofs.YthhncoogmncdkaaW.PrintWords Go.Proofs.YthhncoogmncdkaaW.PrintLast Go.Proofs.YthhncoogmncdkaaW.PrintMore
attribute [local go_sem] max2_int min2_int max_two min_two max_three min_three max_four min_four   -- for this text's walks alone
set_option linter.unusedVariables false
set_option linter.unusedSimpArgs false

/-! ### matrix_twin: function 42 -/
theorem matrix_twin.info : (Try.prog.info? 23).map (fun i => (i.zero, i.size, i.bytes)) = some (some (.slice none 0 0), 1, 24) := by kernel_rfl
theorem matrix_twin.eql_nil (a : Option Addr) (n c n' c' : Nat) (w : World) : (binOp .eql 24 (.slice a n c) (.slice none n' c')).run Try.prog w = .ok (.bool a.isNone) w := by
  simp only [binOp]
  simp [Op.equal, Op.maxDepth, Lib.run_equalIn_slice_nil w 9999 24 23 a n c n' c' Try.underlying24]
set_option maxHeartbeats 400000 in
theorem matrix_twin.clone (A0 : Option Addr) (c0 : Nat) (l0 : List (List Int)) (w : World) (hr0 : Kd.C (Kd.slice 5 (Kd.int .u8)) w A0 l0.length l0) (hlim : l0.length ≤ 100) :
    Calls Try.prog 58 #[.slice A0 l0.length c0] w fun e w' => ∃ (v0_ : Value) (rows : List (List Value)), e = .returned (v0_) ∧ Kd.R (Kd.raw 1) 23 w' w.heap.size (fun _ => True) v0_ rows ∧ rows.length = l0.length ∧ Below w.heap.size w w' := by
  cases A0 with
  | none =>
    have hl : l0.length = 0 := by
      rcases Nat.eq_zero_or_pos l0.length with h | h
      · exact h
      · obtain ⟨ad, h1, _⟩ := hr0.2.2 h; cases h1
    obtain rfl := List.length_eq_zero_iff.1 hl
    have he := matrix_twin.eql_nil none 0 c0 0 0 w
    clear hr0
    go_enter Try.func58, Try.ntmps58
    go_wp2_with fail
    go_ret
    exact ⟨_, [], rfl, Kd.R_nil _ _ _ _ _, rfl, Below.refl _ _⟩
  | some ad =>
    obtain ⟨news, hnl, hnr, hnx⟩ := Kd.reads_raw hr0 (fun x c h => ⟨(Kd.slice 5 (Kd.int .u8)).K_len h, (Kd.slice 5 (Kd.int .u8)).K_one h⟩)
    have HR := Lib.hid hnr
    have HL := Lib.hid hlim
    have HNL := Lib.hid hnl
    have he := matrix_twin.eql_nil (some ad) l0.length c0 0 0 w
    have HO : (Kd.raw 1).R 23 (w.alloc (.cells #[] 23)) w.heap.size (fun _ => True) (.slice (some ⟨w.heap.size, 0, none⟩) 0 0) ([] : List (List Value)) := ⟨fun _ _ => trivial, ⟨[], own_lit w w.heap.size 23 .u8 [] (Nat.le_refl _) (by simp), Reps.none _ _⟩⟩
    have HN := Lib.hid HO
    clear hr0 hlim HO hnr hnl hnx
    go_enter Try.func58, Try.ntmps58
    go_wp2_with ((with_reducible refine gate_builtin (b := .append) (xs := #[.tmp 5, .tmp 6]) rfl ?_); at_builtin; refine Kd.R_append_rows (Kd.raw 1) (w0 := w) w.heap.size rfl (.tmp 5) (.tmp 6) 24 23 (.slice none 0 0) 24 rfl Try.underlying24 matrix_twin.info rfl (by decide) (by omega) (.slice (some ⟨w.heap.size, 0, none⟩) 0 0) ([] : List (List Value)) news _ _ _ (fun _ => True) (fun _ => False) rfl rfl HN.out ?aR (fun _ _ h => h) (fun _ h => h.elim) (fun _ _ => trivial) ?aB ?aS ?aL ?_; (case aR => exact Kd.C_alloc (d := Kd.raw 1) HR.out _); (case aB => exact below_alloc (Below.refl _ _) _); (case aS => exact (below_alloc (Below.refl _ _) _).size); (case aL => have := HL.out; simp; omega); intro v1 w1 ho hb hg hat; have HO2 := Lib.hid ho; have HB2 := Lib.hid hb; clear ho hb hg hat)
    go_ret
    exact ⟨_, _, rfl, HO2.out, by simpa using HNL.out, HB2.out⟩
def matrix_twin.ok (M : List (List Int)) : Prop := 0 < M.length ∧ M.length ≤ 100 ∧ 0 < (rw_ M 0).length ∧ (rw_ M 0).length ≤ 100 ∧ ∀ r ∈ M, r.length = (rw_ M 0).length
instance matrix_twin.dec1 (M : List (List Int)) : Decidable (matrix_twin.ok M) := by unfold matrix_twin.ok; infer_instance
def matrix_twin.f (M : List (List Int)) : Option (List (List Int)) := if matrix_twin.ok M then some M else none
def matrix_twin.St (wx : World) (g cap n m i : Nat) (vs : List Value) (b c : Nat → Nat) (M : List (List Int)) : Prop :=
  RowV wx g 23 cap vs ∧ vs.length = n ∧ (∀ k, k < i → vs[k]? = some (.slice (some ⟨b k, 0, none⟩) m (c k)) ∧ g < b k ∧ (rw_ M k).length = m ∧ RowV wx (b k) 5 (c k) (encs (Value.int .u8) (rw_ M k))) ∧ ∀ k l, k < i → l < i → b k = b l → k = l
theorem matrix_twin.snoc {wx w' : World} {g cap n m i nb nc : Nat} {vs : List Value} {b c : Nat → Nat} {M : List (List Int)} (h : matrix_twin.St wx g cap n m i vs b c M) (hi : i < n) (hb : Below wx.heap.size wx w') (hnb : wx.heap.size ≤ nb) (hl : (rw_ M i).length = m) (hr : RowV w' nb 5 nc (encs (Value.int .u8) (rw_ M i))) :
    matrix_twin.St (w'.setCell ⟨g, i, none⟩ (.slice (some ⟨nb, 0, none⟩) m nc)) g cap n m (i + 1) (vs.set i (.slice (some ⟨nb, 0, none⟩) m nc)) (fun k => if k = i then nb else b k) (fun k => if k = i then nc else c k) M := by
  obtain ⟨h1, h2, h3, h4⟩ := h
  have hg := h1.lt
  refine ⟨(h1.keep (hb.block g hg)).set (by omega) _, by simpa using h2, fun k hk => ?_, fun k l hk hl' e => ?_⟩
  · by_cases e : k = i
    · subst e
      simp only [if_pos]
      exact ⟨by simp [h2, hi], by omega, hl, hr.far (p := ⟨g, k, none⟩) (by show nb ≠ g; omega) _⟩
    · simp only [if_neg e]
      obtain ⟨q1, q2, q3, q4⟩ := h3 k (by omega)
      exact ⟨by rw [List.getElem?_set_ne (fun z => e z.symm)]; exact q1, q2, q3, (q4.keep (hb.block _ q4.lt)).far (p := ⟨g, i, none⟩) (by show b k ≠ g; omega) _⟩
  · by_cases e1 : k = i
    · by_cases e2 : l = i
      · omega
      · simp only [if_pos e1, if_neg e2] at e
        have := (h3 l (by omega)).2.2.2.lt; omega
    · by_cases e2 : l = i
      · simp only [if_neg e1, if_pos e2] at e
        have := (h3 k (by omega)).2.2.2.lt; omega
      · simp only [if_neg e1, if_neg e2] at e
        exact h4 k l (by omega) (by omega) e
theorem matrix_twin.fin {wx : World} {g cap m base : Nat} {vs : List Value} {b c : Nat → Nat} {M : List (List Int)} (h : matrix_twin.St wx g cap M.length m M.length vs b c M) (hg : base ≤ g) : Mat wx (fun k => base ≤ k) g cap b c M m := by
  obtain ⟨h1, h2, h3, h4⟩ := h
  have e : vs = outC M.length b c m := by
    apply List.ext_getElem?
    intro k
    by_cases hk : k < M.length
    · rw [(h3 k hk).1]; simp [outC, hk]
    · rw [List.getElem?_eq_none (by omega), List.getElem?_eq_none (by simp [outC]; omega)]
  subst e
  exact ⟨h1, hg, fun i hi => ⟨by have := (h3 i hi).2.1; omega, by have := (h3 i hi).2.1; show base ≤ b i; omega, (h3 i hi).2.2.1, (h3 i hi).2.2.2⟩, h4⟩
set_option maxHeartbeats 4000000 in
theorem matrix_twin.calls (A0 : Option Addr) (c0 : Nat) (l0 : List (List Int)) (r : List (List Int)) (w : World) (hr0 : Kd.C (Kd.slice 5 (Kd.int .u8)) w A0 l0.length l0) (hc0 : l0.length ≤ c0) (h : matrix_twin.f l0 = some r) :
    Calls Try.prog 42 #[.slice A0 l0.length c0] w fun e w' => ∃ v0_ : Value, e = .returned (v0_) ∧ Kd.S (Kd.slice 5 (Kd.int .u8)) 23 w' w.heap.size (fun _ => True) v0_ r ∧ Below w.heap.size w w' := by
  unfold matrix_twin.f at h
  by_cases hok : matrix_twin.ok l0
  case neg => rw [if_neg hok] at h; cases h
  rw [if_pos hok] at h
  injection h with h
  subst h
  obtain ⟨o1, o2, o3, o4, o5⟩ := hok
  have HR := Lib.hid hr0
  have O5 := Lib.hid (fun i (hi : i < l0.length) => o5 (rw_ l0 i) (by simp [rw_, hi]))
  generalize (rw_ l0 0).length = m at o3 o4 O5
  have O2 := Lib.hid o2
  have O3 := Lib.hid o3
  have O4 := Lib.hid o4
  clear hr0 hc0 o2 o3 o4 o5
  go_enter Try.func42, Try.ntmps42
  go_wp2_with fail
  refine (matrix_twin.clone A0 c0 l0 w HR.out O2.out).mono ?_
  rintro e w1 ⟨v0, rows, rfl, ho, hlen, hb⟩
  obtain ⟨g, cap, hv, -, -, -⟩ := Kd.R_form ho (by omega)
  rw [hlen] at hv
  subst hv
  obtain ⟨vs, hvs, hvl, -, hg⟩ := RowV.of_raw ho
  have HV := Lib.hid hvs
  have HVL := Lib.hid hvl
  have HG := Lib.hid hg
  have HB := Lib.hid hb
  clear ho hlen hb hvs hvl hg
  go_wp2_with fail
  go_loopg [9] l0.length (fun gk s9 wx => ∃ (i : Nat) (b c : Nat → Nat) (vs : List Value), i + gk = l0.length ∧ s9 = .int .i64 i ∧ Aside0 (matrix_twin.St wx g cap l0.length m i vs b c l0) ∧ Aside0 (Below w.heap.size w wx))
  case atStart => exact ⟨0, fun _ => 0, fun _ => 0, vs, by omega, rfl, ⟨⟨HV.out, HVL.out, fun k hk => absurd hk (by omega), fun k l hk => absurd hk (by omega)⟩⟩, ⟨HB.out⟩⟩
  case round =>
    clear HV HVL HB
    obtain ⟨i, b, c, vs, hig, rfl, HS, HB⟩ := hrel
    have hl : (i : Int) ≤ (l0.length : Int) := by omega
    cases gk with
    | zero =>
      obtain rfl : i = l0.length := by omega
      go_wp2_with fail
      go_ret
      exact ⟨_, rfl, (matrix_twin.fin HS.out HG.out).toS (fun _ hk => hk), HB.out⟩
    | succ d =>
      have hi1 : (i : Int) < (l0.length : Int) := by omega
      obtain ⟨ad, B0, d0, rfl, hx, hd0, hr1⟩ : ∃ ad A1 c1, A0 = some ad ∧ wr.cell? (ad.add i) = some (.slice A1 (rw_ l0 i).length c1) ∧ (rw_ l0 i).length ≤ c1 ∧ Kd.C (Kd.int .u8) wr A1 (rw_ l0 i).length (rw_ l0 i) := at_L1 (Kd.C_below HR.out HB.out) (i : Int) (by omega) (by omega)
      have HR1 := Lib.hid hr1
      have HD := Lib.hid hd0
      clear hr1 hd0
      go_wp2_with fail
      refine (slices_Clone_byte_byte.calls B0 d0 (rw_ l0 i) (rw_ l0 i) _ HR1.out HD.out (by unfold slices_Clone_byte_byte.f; rw [if_pos (by rw [O5.out i (by omega)]; have := O4.out; omega)])).mono ?_
      rintro e w2 ⟨v1, rfl, ho, hb⟩
      obtain ⟨nb, nc, rfl, hnb, -, -⟩ := Kd.R_form ho (by rw [O5.out i (by omega)]; exact O3.out)
      rw [O5.out i (by omega)] at ho ⊢
      have hv := (RowV.of_R ho).1
      have HS2 := Lib.hid (matrix_twin.snoc HS.out (by omega) hb hnb (O5.out i (by omega)) hv)
      have HB2 := Lib.hid (below_set (g := g) (j := i) (v := .slice (some ⟨nb, 0, none⟩) m nc) (below_step HB.out hb) HG.out)
      have hgk := HS.out.1.keep (hb.block _ HS.out.1.lt)
      obtain ⟨X, hx1⟩ : ∃ X, w2.cell? ⟨g, i, none⟩ = some X := ⟨_, hgk.cell (by have := HS.out.2.1; omega)⟩
      have hx2 := hgk.frozen i
      clear hx hv hb hnb ho HS HB hgk HR1 HD
      go_wp2_with fail
      go_roundg d
      case measure => omega
      case rel => exact ⟨i + 1, _, _, _, by omega, by have := O2.out; rw [show wrap64 ((i : Int) + 1) = ((i + 1 : Nat) : Int) by unfold wrap64; omega], ⟨HS2.out⟩, ⟨HB2.out⟩⟩

/-! ### matrix_Inverse: function 26 -/
def matrix_Inverse.f (k : Nat) (l0 : List (List Int)) : Option (List (List Int) × Int) := (matrix_Check.f k l0).bind fun e => if e = 0 then (if matrix_twin.ok l0 then (if l0.length = (rw_ l0 0).length then (matrix_One.f (l0.length : Int)).bind fun o => if o.2 = 0 ∧ o.1.length = l0.length ∧ (∀ r ∈ o.1, r.length = l0.length) then (matrix_solve.f k l0 o.1).bind fun q => if q.2.2 < l0.length then some ([], 5) else some (q.2.1, 0) else none else some ([], 30)) else none) else some ([], 30)
theorem matrix_Inverse.mono : ∀ a0 k, LeO (matrix_Inverse.f k a0) (matrix_Inverse.f (k + 1) a0) := fun a0 k => LeO.bind (matrix_Check.mono _ _) (fun _ => LeO.ite (LeO.ite (LeO.ite (LeO.bind (LeO.refl _) (fun _ => LeO.ite (LeO.bind (matrix_solve.mono _ _ _) (fun _ => LeO.refl _)) (LeO.refl _))) (LeO.refl _)) (LeO.refl _)) (LeO.refl _))
set_option maxHeartbeats 4000000 in
theorem matrix_Inverse.calls (k : Nat) (A0 : Option Addr) (c0 : Nat) (l0 : List (List Int)) (r1 : List (List Int)) (r2 : Int) (w : World) (hr0 : Kd.C (Kd.slice 5 (Kd.int .u8)) w A0 l0.length l0) (hc0 : l0.length ≤ c0) (h : matrix_Inverse.f k l0 = some (r1, r2)) :
    Calls Try.prog 26 #[.slice A0 l0.length c0] w fun e w' => ∃ v0_ : Value, e = .returned (.tuple #[v0_, .int .i64 r2]) ∧ Kd.S (Kd.slice 5 (Kd.int .u8)) 23 w' w.heap.size (fun _ => True) v0_ r1 ∧ Below w.heap.size w w' := by
  obtain ⟨e, he, h⟩ := Option.bind_eq_some_iff.mp h
  have HE := Lib.hid he
  have HR := Lib.hid hr0
  have HC := Lib.hid hc0
  clear he hr0 hc0
  by_cases h0 : e = 0
  case neg =>
    rw [if_neg h0] at h
    injection h with h; injection h with ha hb; subst ha hb
    have he1 : (e != 0) = true := bne_iff_ne.mpr h0
    clear h0
    go_enter Try.func26, Try.ntmps26
    go_wp2_with fail
    refine (matrix_Check.calls k A0 c0 l0 e _ HR.out HC.out HE.out).mono ?_
    rintro e' w1 ⟨rfl, n, rfl⟩
    go_wp2_with fail
    go_ret2
    exact ⟨_, rfl, Kd.S_nil _ _ _ _ _, pw_below_drewN (Below.refl _ _) n⟩
  rw [if_pos h0] at h
  subst h0
  by_cases hok : matrix_twin.ok l0
  case neg => rw [if_neg hok] at h; cases h
  rw [if_pos hok] at h
  have HK := Lib.hid hok
  have hp : (0 : Int) < (l0.length : Int) := by have := hok.1; omega
  obtain ⟨ad, B0, d0, rfl, hx, -, -⟩ : ∃ ad A1 c1, A0 = some ad ∧ w.cell? (ad.add 0) = some (.slice A1 (rw_ l0 0).length c1) ∧ (rw_ l0 0).length ≤ c1 ∧ Kd.C (Kd.int .u8) w A1 (rw_ l0 0).length (rw_ l0 0) := at_L1 HR.out 0 (by omega) (by omega)
  have ea : ad.add 0 = ad := by cases ad; simp [Addr.add]
  rw [ea] at hx
  clear ea hok
  by_cases h1 : l0.length = (rw_ l0 0).length
  case neg =>
    rw [if_neg h1] at h
    injection h with h; injection h with ha hb; subst ha hb
    have he1 : ((l0.length : Int) != ((rw_ l0 0).length : Int)) = true := bne_iff_ne.mpr (by omega)
    clear h1
    go_enter Try.func26, Try.ntmps26
    go_wp2_with fail
    refine (matrix_Check.calls k (some ad) c0 l0 0 _ HR.out HC.out HE.out).mono ?_
    rintro e' w1 ⟨rfl, n, rfl⟩
    replace hx : (w.drewN n).cell? ad = some (.slice B0 (rw_ l0 0).length d0) := hx
    go_wp2_with fail
    go_ret2
    exact ⟨_, rfl, Kd.S_nil _ _ _ _ _, pw_below_drewN (Below.refl _ _) n⟩
  rw [if_pos h1] at h
  have he1 : ((l0.length : Int) != ((rw_ l0 0).length : Int)) = false := bne_eq_false_iff_eq.mpr (by omega)
  have H1 := Lib.hid h1
  clear h1
  obtain ⟨⟨O, oe⟩, hone, h⟩ := Option.bind_eq_some_iff.mp h
  by_cases ho : oe = 0 ∧ O.length = l0.length ∧ (∀ r ∈ O, r.length = l0.length)
  case neg => rw [if_neg ho] at h; cases h
  rw [if_pos ho] at h
  obtain ⟨rfl, hol, hor⟩ := ho
  obtain ⟨⟨M', B', r⟩, hs, h⟩ := Option.bind_eq_some_iff.mp h
  have HS := Lib.hid hs
  have HO := Lib.hid hone
  have HOL := Lib.hid hol
  have HOR := Lib.hid hor
  have H := Lib.hid h
  clear hs hone hol hor h
  go_enter Try.func26, Try.ntmps26
  go_wp2_with fail
  refine (matrix_Check.calls k (some ad) c0 l0 0 _ HR.out HC.out HE.out).mono ?_
  rintro e' w1 ⟨rfl, n, hw⟩
  replace hx : w1.cell? ad = some (.slice B0 (rw_ l0 0).length d0) := by rw [hw]; exact hx
  have HB := Lib.hid (show Below w.heap.size w w1 by rw [hw]; exact pw_below_drewN (Below.refl _ _) n)
  clear hw
  go_wp2_with fail
  refine (matrix_One.calls (l0.length : Int) O 0 _ HO.out).mono ?_
  rintro e' w2 ⟨v1, rfl, ho, hb⟩
  obtain ⟨g, cap, b, c, rfl, -, hM⟩ := Mat.of_S ho HOR.out (by rw [HOL.out]; exact HK.out.1) HK.out.1
  rw [HOL.out]
  have HM := Lib.hid ((Mat.size hM).mono (S' := fun k => w.heap.size ≤ k ∧ k < w2.heap.size) (fun k hk => ⟨Nat.le_trans HB.out.size hk.1, hk.2⟩))
  replace HB := Lib.hid (below_step HB.out hb)
  clear ho hb hM hx he1
  go_wp2_with fail
  refine (matrix_twin.calls (some ad) c0 l0 l0 _ (Kd.C_below HR.out HB.out) HC.out (by unfold matrix_twin.f; rw [if_pos HK.out])).mono ?_
  rintro e' w3 ⟨v2, rfl, ho, hb⟩
  obtain ⟨g2, cap2, b2, c2, rfl, -, hM2⟩ := Mat.of_S ho HK.out.2.2.2.2 HK.out.1 HK.out.2.2.1
  have HM2 := Lib.hid hM2
  replace HM := Lib.hid (HM.out.below hb)
  have HZ := Lib.hid HB.out.size
  replace HB := Lib.hid (below_step HB.out hb)
  clear ho hb hM2
  go_wp2_with fail
  have hC := matrix_solve.calls k _ _ g2 g cap2 cap _ _ b2 c2 b c l0 O M' B' r w _ HB.out HM2.out HM.out (fun k hk => ⟨Nat.le_trans HZ.out hk, fun z => by have := z.2; omega⟩) (fun k hk => ⟨hk.1, fun z => by have := hk.2; omega⟩) ⟨HK.out.1, HK.out.2.1, HOL.out, HK.out.2.2.1, HK.out.2.2.2.1, HK.out.1, HK.out.2.1⟩ HS.out
  rw [HOL.out] at hC
  refine hC.mono ?_
  clear hC
  rintro e' w4 ⟨rfl, ⟨b3, c3, b4, c4, -, hM4⟩, -, hl4, hb⟩
  have HM4 := Lib.hid (hM4.toS (base := w.heap.size) (fun _ hk => hk.1))
  rw [hl4] at HM4
  have HB4 := Lib.hid hb
  clear hb hM4 HM HM2 HS
  by_cases hlt : r < l0.length
  case pos =>
    have h := H.out
    rw [if_pos hlt] at h
    injection h with h; injection h with ha hb; subst ha hb
    have hd : decide ((r : Int) < (l0.length : Int)) = true := decide_eq_true (by omega)
    have hd2 : (r : Int) < (l0.length : Int) := by omega
    clear hlt H
    go_wp2_with fail
    go_ret2
    exact ⟨_, rfl, Kd.S_nil _ _ _ _ _, HB4.out⟩
  case neg =>
    have h := H.out
    rw [if_neg hlt] at h
    injection h with h; injection h with ha hb; subst ha hb
    have hd2 : ¬ (r : Int) < (l0.length : Int) := by omega
    clear hlt H
    go_wp2_with fail
    go_ret2
    exact ⟨_, rfl, HM4.out, HB4.out⟩

end Go.Proofs.Ythhncoogmncdkaa.PC
