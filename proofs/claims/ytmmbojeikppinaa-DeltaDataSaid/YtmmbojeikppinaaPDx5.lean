-- written by the session's own program (wip/prt.py) over the kit's print: not print.sh's own text
import Derived.Test.YtmmbojeikppinaaPDx0
import Derived.Test.YtmmbojeikppinaaPDx4
import Derived.Test.YtmmbojeikppinaaPDx6
namespace Go.Proofs.Ytmmbojeikppinaa.PD
open Go.RowKit Go.Proofs.YtmmbojeikppinaaW.PrintWords Go.Proofs.YtmmbojeikppinaaW.PrintLast Go.Proofs.YtmmbojeikppinaaW.PrintMore
attribute [local go_sem] max2_int min2_int max_two min_two max_three min_three max_four min_four   -- for this text's walks alone
set_option linter.unusedVariables false
set_option linter.unusedSimpArgs false

/-! ### codec_Row: function 28 -/
/-- the rows of a code: the unit matrix, the parity below -/
def codec_Row.M (k r : Nat) : List (List Int) := matrix_One.M k ++ (if r = 0 then [] else matrix_Cauchy.M k r)
def codec_Row.bad (a0 a1 : Int) : Prop := a0 < 1 ∨ a0 > 12 ∨ a1 < 0 ∨ a1 > 4
instance codec_Row.dec1 (a0 a1 : Int) : Decidable (codec_Row.bad a0 a1) := by unfold codec_Row.bad; infer_instance
def codec_Row.inv (a0 a1 : Int) : Prop := ∀ i, i < a1.toNat → ∀ j, j < a0.toNat → (gf_Inv.f (matrix_Cauchy.at_ a0 i j)).isSome = true
instance codec_Row.dec2 (a0 a1 : Int) : Decidable (codec_Row.inv a0 a1) := by unfold codec_Row.inv; infer_instance
def codec_Row.f (a0 a1 a2 : Int) : Option (List Int × Int) := if in64 a0 ∧ in64 a1 ∧ in64 a2 then (if codec_Row.bad a0 a1 then some ([], 2) else if codec_Row.inv a0 a1 then (if 0 ≤ a2 ∧ a2 < a0 + a1 then some (rw_ (codec_Row.M a0.toNat a1.toNat) a2.toNat, 0) else some ([], 2)) else none) else none
theorem codec_Row.M_len (k r : Nat) : (codec_Row.M k r).length = k + r := by
  unfold codec_Row.M matrix_One.M
  by_cases h : r = 0
  · subst h; simp
  · rw [if_neg h]; simp [matrix_Cauchy.M]
theorem codec_Row.M_one {k r i : Nat} (h : i < k) : rw_ (codec_Row.M k r) i = rw_ (matrix_One.M k) i := by
  have hl : (matrix_One.M k).length = k := by simp [matrix_One.M]
  unfold codec_Row.M rw_
  rw [List.getD_eq_getElem?_getD, List.getD_eq_getElem?_getD, List.getElem?_append_left (by omega)]
theorem codec_Row.M_two {k r i : Nat} (h : i < r) : rw_ (codec_Row.M k r) (k + i) = rw_ (matrix_Cauchy.M k r) i := by
  have hl : (matrix_One.M k).length = k := by simp [matrix_One.M]
  unfold codec_Row.M rw_
  rw [if_neg (by omega), List.getD_eq_getElem?_getD, List.getD_eq_getElem?_getD, List.getElem?_append_right (by omega), hl, Nat.add_sub_cancel_left]
theorem codec_Row.in64_nat {i : Nat} (h : i ≤ 1000) : in64 (i : Int) := by unfold in64; simp only [Lit.wf, Bool.and_eq_true, decide_eq_true_eq]; exact ⟨Int.le_trans (b := 0) (by decide) (by omega), Int.le_trans (b := 1000) (by omega) (by decide)⟩
theorem codec_Row.keys {k r n i : Nat} (hk : k ≤ 12) (hr : r ≤ 4) (hi : i ≤ 16) : ∃ l, keyOf Try.prog 65 (pk k r i) = some l := pk_key (codec_Row.in64_nat (by omega)) (codec_Row.in64_nat (by omega)) (codec_Row.in64_nat (by omega))
theorem codec_Row.keys_ne {k r i j : Nat} (h : i ≠ j) : pk k r i ≠ pk k r j := fun z => h (by have := pk_inj z; omega)
theorem codec_Row.bad1 (a0 a1 : Int) (h : codec_Row.bad a0 a1) (w : World) : Calls Try.prog 34 #[.int .i64 a0, .int .i64 a1] w fun e w' => e = .returned (.map none) ∧ w = w' := by
  unfold codec_Row.bad at h
  by_cases h1 : a0 < 1
  · have d1 : decide (a0 < 1) = true := decide_eq_true h1
    clear h
    go_enter Try.func34, Try.ntmps34
    go_wp2_with fail
    go_ret
    exact ⟨rfl, rfl⟩
  have d1 : decide (a0 < 1) = false := decide_eq_false h1
  by_cases h2 : a0 > 12
  · have d2 : decide (a0 > 12) = true := decide_eq_true h2
    clear h
    go_enter Try.func34, Try.ntmps34
    go_wp2_with fail
    go_ret
    exact ⟨rfl, rfl⟩
  have d2 : decide (a0 > 12) = false := decide_eq_false h2
  by_cases h3 : a1 < 0
  · have d3 : decide (a1 < 0) = true := decide_eq_true h3
    clear h
    go_enter Try.func34, Try.ntmps34
    go_wp2_with fail
    go_ret
    exact ⟨rfl, rfl⟩
  have d3 : decide (a1 < 0) = false := decide_eq_false h3
  have d4 : decide (a1 > 4) = true := decide_eq_true (by omega)
  clear h
  go_enter Try.func34, Try.ntmps34
  go_wp2_with fail
  go_ret
  exact ⟨rfl, rfl⟩
set_option maxHeartbeats 4000000 in
set_option maxRecDepth 100000 in
theorem codec_Row.made (k r : Nat) (hk0 : 1 ≤ k) (hk : k ≤ 12) (hr : r ≤ 4) (hi : codec_Row.inv k r) (w : World) : Calls Try.prog 34 #[.int .i64 k, .int .i64 r] w fun e w' => ∃ (g : Nat) (val : Nat → Value), e = .returned (.map (some g)) ∧
      MapIs w' g (k + r) (fun i => pk k r i) val ∧ (∀ i, i < k + r → Kd.R (Kd.int .u8) 5 w' w.heap.size (fun _ => True) (val i) (rw_ (codec_Row.M k r) i)) ∧ Below w.heap.size w w' := by
  have hmm := @run_makeMap Try.prog
  have h1 : ¬ (k : Int) < 1 := by omega
  have h2 : ¬ (k : Int) > 12 := by omega
  have h3 : ¬ (r : Int) < 0 := by omega
  have h4 : ¬ (r : Int) > 4 := by omega
  have d1 : decide ((k : Int) < 1) = false := decide_eq_false h1
  have d2 : decide ((k : Int) > 12) = false := decide_eq_false h2
  have d3 : decide ((r : Int) < 0) = false := decide_eq_false h3
  have d4 : decide ((r : Int) > 4) = false := decide_eq_false h4
  have ho : matrix_One.f (k : Int) = some (matrix_One.M k, 0) := by
    unfold matrix_One.f; rw [if_neg (by omega), if_neg (by omega), Int.toNat_natCast]
  have HO := Lib.hid ho
  have HK := Lib.hid hk
  have HR := Lib.hid hr
  have HI := Lib.hid hi
  have HK0 := Lib.hid hk0
  clear ho hi h1 h2 h3 h4 hk hr hk0
  go_enter Try.func34, Try.ntmps34
  go_wp2_with fail
  have HB := Lib.hid (below_alloc (Below.refl w.heap.size w) (.map #[] 0))
  have HMP := Lib.hid (MapIs.new w (fun i => pk k r i) (fun _ => undef))
  generalize w.alloc (.map #[] 0) = w1 at HB HMP ⊢
  have HGE := Lib.hid (Nat.le_refl w.heap.size)
  have HGL := Lib.hid HMP.out.lt
  generalize hgq : w.heap.size = g at HMP HGE HGL ⊢
  rw [← hgq] at HGE
  have HGQ := Lib.hid hgq
  clear hgq
  refine (matrix_One.calls (k : Int) (matrix_One.M k) 0 _ HO.out).mono ?_
  rintro e' w2 ⟨v1, rfl, ho, hb⟩
  have hkk := HK0.out
  obtain ⟨g1, cap1, b1, c1, rfl, -, hM⟩ := Mat.of_S (m := k) ho (by simp [matrix_One.M]) (by simp [matrix_One.M]; omega) hkk
  have hml : (matrix_One.M k).length = k := by simp [matrix_One.M]
  rw [hml]
  have HM := Lib.hid (hM.mono (S' := fun q => g < q ∧ w.heap.size ≤ q) (fun q hq => ⟨Nat.lt_of_lt_of_le HGL.out hq, Nat.le_trans HB.out.size hq⟩))
  have HML := Lib.hid hml
  replace HMP := Lib.hid (HMP.out.below hb)
  replace HB := Lib.hid (below_step HB.out hb)
  clear ho hb hM hkk hml HGL
  go_wp2_with fail
  go_loopg [8, 9, 36] k (fun gk s8 s9 s36 wx => ∃ i : Nat, i + gk = k ∧ s36 = .int .i64 i ∧ Hid (MapIs wx g i (fun i => pk k r i) (fun i => .slice (some ⟨b1 i, 0, none⟩) k (c1 i))) ∧ Hid (Mat wx (fun q => g < q ∧ w.heap.size ≤ q) g1 cap1 b1 c1 (matrix_One.M k) k) ∧ Hid (Below w.heap.size w wx))
  case atStart => exact ⟨0, by omega, rfl, Lib.hid (HMP.out.congr (fun i hi => absurd hi (by omega))), HM, HB⟩
  case round =>
    clear HMP HM HB
    obtain ⟨i, hig, rfl, HMP, HM, HB⟩ := hrel
    have hle : (i : Int) ≤ (k : Int) := by omega
    cases gk with
    | succ d =>
      have hlt : (i : Int) < (k : Int) := by omega
      have hx := HM.out.out (i := i) (by rw [HML.out]; omega)
      obtain ⟨o, hput, hnew⟩ := HMP.out.put (fun j hj => codec_Row.keys (n := 0) HK.out HR.out (by have := HK.out; omega)) (fun j hj => codec_Row.keys_ne (by omega))
      have HN := Lib.hid hnew
      have HM2 := Lib.hid (HM.out.keep (W' := ChangeMaps.setBlock wr g o) (fun q hq => put_other (by have := hq.1; omega) o HMP.out.lt))
      have HB2 := Lib.hid (put_below HB.out (Nat.le_of_eq HGQ.out) o HMP.out.lt)
      simp only [pk] at hput
      have hw : wrap64 ((i : Int) + 1) = ((i + 1 : Nat) : Int) := by have := HK.out; unfold wrap64; omega
      have HW := Lib.hid hw
      clear hnew hw HMP HM HB hle
      go_wp2_with fail
      go_roundg d
      case measure => omega
      case rel => exact ⟨i + 1, by omega, by rw [HW.out], HN, HM2, HB2⟩
    | zero =>
      obtain rfl : i = k := by omega
      clear hle hig
      by_cases hr0 : r = 0
      case pos =>
        subst hr0
        have d5 : decide (((0 : Nat) : Int) > 0) = false := by decide
        go_wp2_with fail
        go_ret
        refine ⟨g, _, rfl, HMP.out, fun q hq => ?_, HB.out⟩
        rw [codec_Row.M_one (by omega)]
        exact Kd.R_mono (HM.out.R (i := q) (by rw [HML.out]; omega) (HM.out.2.2.1 q (by rw [HML.out]; omega)).2.1.2) (fun _ _ => trivial)
      have d5 : decide ((r : Int) > 0) = true := decide_eq_true (by omega)
      have d6 : (0 : Int) < (r : Int) := by omega
      have hc : matrix_Cauchy.f (i : Int) (r : Int) = some (matrix_Cauchy.M i r, 0) := by
        have := HR.out; have := HK.out; have := HK0.out
        unfold matrix_Cauchy.f; rw [if_neg (by omega), if_neg (by omega), if_neg (by omega), if_neg (by omega), if_pos (by simpa [codec_Row.inv] using HI.out)]; simp
      have HC := Lib.hid hc
      have HR0 := Lib.hid hr0
      clear hc hr0
      go_wp2_with fail
      refine (matrix_Cauchy.calls (i : Int) (r : Int) (matrix_Cauchy.M i r) 0 _ HC.out).mono ?_
      rintro e' w3 ⟨v2, rfl, ho, hb⟩
      have hkk := HK0.out
      have hcl : (matrix_Cauchy.M i r).length = r := by simp [matrix_Cauchy.M]
      obtain ⟨g2, cap2, b2, c2, rfl, -, hM⟩ := Mat.of_S (m := i) ho (by simp [matrix_Cauchy.M]) (by have := HR0.out; omega) hkk
      rw [hcl]
      have HM2 := Lib.hid (hM.mono (S' := fun q => g < q ∧ w.heap.size ≤ q) (fun q hq => ⟨Nat.lt_of_lt_of_le HMP.out.lt hq, Nat.le_trans HB.out.size hq⟩))
      have HCL := Lib.hid hcl
      replace HMP := Lib.hid (HMP.out.below hb)
      replace HM := Lib.hid (HM.out.below hb)
      replace HB := Lib.hid (below_step HB.out hb)
      clear ho hb hM hkk hcl
      go_wp2_with fail
      go_loopg [12, 13, 58] r (fun gk s12 s13 s58 wx => ∃ j : Nat, j + gk = r ∧ s58 = .int .i64 j ∧ Hid (MapIs wx g (i + j) (fun q => pk i r q) (fun q => if q < i then .slice (some ⟨b1 q, 0, none⟩) i (c1 q) else .slice (some ⟨b2 (q - i), 0, none⟩) i (c2 (q - i)))) ∧ Hid (Mat wx (fun q => g < q ∧ w.heap.size ≤ q) g1 cap1 b1 c1 (matrix_One.M i) i) ∧ Hid (Mat wx (fun q => g < q ∧ w.heap.size ≤ q) g2 cap2 b2 c2 (matrix_Cauchy.M i r) i) ∧ Hid (Below w.heap.size w wx))
      case atStart => exact ⟨0, by omega, rfl, Lib.hid (HMP.out.congr (fun q hq => by rw [if_pos (by omega)])), HM, HM2, HB⟩
      case round =>
        clear HMP HM HM2 HB
        obtain ⟨j, hjg, rfl, HMP, HM, HM2, HB⟩ := hrel
        have hle : (j : Int) ≤ (r : Int) := by omega
        cases gk with
        | succ d =>
          have hlt : (j : Int) < (r : Int) := by omega
          have hx := HM2.out.out (i := j) (by rw [HCL.out]; omega)
          obtain ⟨o, hput, hnew⟩ := HMP.out.put (fun q hq => codec_Row.keys (n := 0) HK.out HR.out (by have := HK.out; have := HR.out; omega)) (fun q hq => codec_Row.keys_ne (by omega))
          have HN := Lib.hid hnew
          have HM3 := Lib.hid (HM.out.keep (W' := ChangeMaps.setBlock wr g o) (fun q hq => put_other (by have := hq.1; omega) o HMP.out.lt))
          have HM4 := Lib.hid (HM2.out.keep (W' := ChangeMaps.setBlock wr g o) (fun q hq => put_other (by have := hq.1; omega) o HMP.out.lt))
          have HB2 := Lib.hid (put_below HB.out (Nat.le_of_eq HGQ.out) o HMP.out.lt)
          simp only [pk] at hput
          rw [if_neg (by omega), show i + j - i = j by omega, show ((i + j : Nat) : Int) = (i : Int) + (j : Int) by omega] at hput
          have hw : wrap64 ((j : Int) + 1) = ((j + 1 : Nat) : Int) := by have := HR.out; unfold wrap64; omega
          have hw2 : wrap64 ((i : Int) + (j : Int)) = (i : Int) + (j : Int) := by have := HR.out; have := HK.out; unfold wrap64; omega
          have hb1 : (i : Int) ≤ 12 := by have := HK.out; omega
          have hb2 : (r : Int) ≤ 4 := by have := HR.out; omega
          have HW := Lib.hid hw
          clear hnew hw hw2 HMP HM HM2 HB hle
          go_wp2_with fail
          go_roundg d
          case measure => omega
          case rel => exact ⟨j + 1, by omega, by first | rw [HW.out] | (simp; done), HN, HM3, HM4, HB2⟩
        | zero =>
          obtain rfl : j = r := by omega
          go_wp2_with fail
          go_ret
          refine ⟨g, _, rfl, HMP.out, fun q hq => ?_, HB.out⟩
          by_cases hqi : q < i
          · rw [codec_Row.M_one hqi, if_pos hqi]
            exact Kd.R_mono (HM.out.R (i := q) (by rw [HML.out]; omega) (HM.out.2.2.1 q (by rw [HML.out]; omega)).2.1.2) (fun _ _ => trivial)
          · obtain ⟨p, rfl⟩ : ∃ p, q = i + p := ⟨q - i, by omega⟩
            rw [codec_Row.M_two (by omega), if_neg hqi, show i + p - i = p by omega]
            exact Kd.R_mono (HM2.out.R (i := p) (by rw [HCL.out]; omega) (HM2.out.2.2.1 p (by rw [HCL.out]; omega)).2.1.2) (fun _ _ => trivial)
theorem codec_Row.zero (w : World) : (zeroValue 23).run Try.prog w = .ok (.slice none 0 0) w := by kernel_rfl
theorem codec_Row.calls (a0 a1 a2 : Int) (r1 : List Int) (r2 : Int) (w : World) (h : codec_Row.f a0 a1 a2 = some (r1, r2)) :
    Calls Try.prog 28 #[.int .i64 a0, .int .i64 a1, .int .i64 a2] w fun e w' => ∃ v0_ : Value, e = .returned (.tuple #[v0_, .int .i64 r2]) ∧ Kd.R (Kd.int .u8) 5 w' w.heap.size (fun _ => True) v0_ r1 ∧ Below w.heap.size w w' := by
  unfold codec_Row.f at h
  by_cases h64 : in64 a0 ∧ in64 a1 ∧ in64 a2
  case neg => rw [if_neg h64] at h; cases h
  rw [if_pos h64] at h
  have hkey := pk_key h64.1 h64.2.1 h64.2.2
  by_cases hb : codec_Row.bad a0 a1
  · rw [if_pos hb] at h
    injection h with h; injection h with ha hc; subst ha hc
    have HBAD := Lib.hid hb
    have HL := Lib.hid (fun W : World => look_nil W (.slice none 0 0) (codec_Row.zero W) true hkey)
    clear hb hkey h64
    go_enter Try.func28, Try.ntmps28
    go_wp2_with fail
    refine (codec_Row.bad1 a0 a1 HBAD.out _).mono ?_
    rintro e' w1 ⟨rfl, rfl⟩
    have hl := HL.out w
    simp only [pk, if_true] at hl
    go_wp2_with fail
    go_ret2
    exact ⟨_, rfl, Kd.R_nil _ _ _ _ _, Below.refl _ _⟩
  rw [if_neg hb] at h
  by_cases hi : codec_Row.inv a0 a1
  case neg => rw [if_neg hi] at h; cases h
  rw [if_pos hi] at h
  unfold codec_Row.bad at hb
  obtain ⟨k, rfl⟩ := Int.eq_ofNat_of_zero_le (show 0 ≤ a0 by omega)
  obtain ⟨r, rfl⟩ := Int.eq_ofNat_of_zero_le (show 0 ≤ a1 by omega)
  simp only [Int.toNat_natCast] at h
  have hk0 : 1 ≤ k := by omega
  have hk : k ≤ 12 := by omega
  have hr : r ≤ 4 := by omega
  have HI := Lib.hid hi
  have HK0 := Lib.hid hk0
  have HK := Lib.hid hk
  have HR := Lib.hid hr
  have HKEY := Lib.hid hkey
  have H := Lib.hid h
  clear hb hi hkey h64 hk0 hk hr h
  go_enter Try.func28, Try.ntmps28
  go_wp2_with fail
  refine (codec_Row.made k r HK0.out HK.out HR.out HI.out _).mono ?_
  rintro e' w1 ⟨g, val, rfl, hmp, hrow, hb⟩
  have HB := Lib.hid hb
  rcases hmp.look (fun i hi => codec_Row.keys (n := 0) HK.out HR.out (by have := HK.out; have := HR.out; omega)) (.slice none 0 0) (codec_Row.zero w1) true HKEY.out with ⟨i, hi, hx, hl⟩ | ⟨hno, hl⟩
  · have e2 := pk_inj hx
    subst e2
    have h := H.out
    rw [if_pos ⟨by omega, by omega⟩, Int.toNat_natCast] at h
    injection h with h; injection h with ha hc; subst ha hc
    have HRW := Lib.hid (hrow i hi)
    simp only [pk, if_true] at hl
    clear hmp hrow hb hx H
    go_wp2_with fail
    go_ret2
    exact ⟨_, rfl, HRW.out, HB.out⟩
  · have h := H.out
    rw [if_neg (fun z => hno a2.toNat (by omega) (by rw [show ((a2.toNat : Nat) : Int) = a2 by omega]))] at h
    injection h with h; injection h with ha hc; subst ha hc
    simp only [pk, if_true] at hl
    clear hmp hrow hb hno H
    go_wp2_with fail
    go_ret2
    exact ⟨_, rfl, Kd.R_nil _ _ _ _ _, HB.out⟩

end Go.Proofs.Ytmmbojeikppinaa.PD
