-- written by the session's own program (wip/prt.py) over the kit's print: not print.sh's own text
import Derived.Test.YtmeckhfoajfapaaPTx0
import Derived.Test.YtmeckhfoajfapaaPTx8
import Derived.Test.YtmeckhfoajfapaaPTx10
import Derived.Test.YtmeckhfoajfapaaPTx11
namespace Go.Proofs.Ytmeckhfoajfapaa.PT
open Go.RowKit Go.Proofs.YtmeckhfoajfapaaW.PrintWords Go.Proofs.YtmeckhfoajfapaaW.PrintLast Go.Proofs.YtmeckhfoajfapaaW.PrintMore
attribute [local go_sem] max2_int min2_int max_two min_two max_three min_three max_four min_four   -- for this text's walks alone
set_option linter.unusedVariables false
set_option linter.unusedSimpArgs false

/-! ### twoslotref03_Inverse: function 29 -/
theorem twoslotref03_Inverse.info : (Try.prog.info? 5).map (fun i => (i.zero, i.size, i.bytes)) = some (some (.int .u8 0), 1, 1) := by kernel_rfl
theorem twoslotref03_Inverse.info1 : (Try.prog.info? 5).map (·.size) = some 1 := by kernel_rfl
def twoslotref03_Inverse.ok (M : List (List Int)) : Prop := 0 < M.length ∧ M.length ≤ 100 ∧ 0 < (rw_ M 0).length ∧ (rw_ M 0).length ≤ 100 ∧ ∀ r ∈ M, r.length = (rw_ M 0).length
instance twoslotref03_Inverse.dec1 (M : List (List Int)) : Decidable (twoslotref03_Inverse.ok M) := by unfold twoslotref03_Inverse.ok; infer_instance
def twoslotref03_Inverse.xr (l0 : List (List Int)) (n k : Nat) : List Int := rw_ l0 k ++ (List.replicate n 0).set k 1
def twoslotref03_Inverse.X (l0 : List (List Int)) : List (List Int) := (List.range l0.length).map fun k => twoslotref03_Inverse.xr l0 l0.length k
def twoslotref03_Inverse.d (k n : Nat) (X : List (List Int)) (i j : Nat) : Option (Int × Int) := twoslotref01_Div.f k (rd (rw_ X i) ((n + j : Nat) : Int)) (rd (rw_ X i) (i : Int))
def twoslotref03_Inverse.G (k n : Nat) (X : List (List Int)) (i j : Nat) : Int := ((twoslotref03_Inverse.d k n X i j).getD (0, 0)).1
def twoslotref03_Inverse.M (k n : Nat) (X : List (List Int)) : List (List Int) := (List.range n).map fun i => (List.range n).map fun j => twoslotref03_Inverse.G k n X i j
def twoslotref03_Inverse.all (k n : Nat) (X : List (List Int)) : Prop := ∀ i, i < n → ∀ j, j < n → (twoslotref03_Inverse.d k n X i j).isSome = true
instance twoslotref03_Inverse.dec2 (k n : Nat) (X : List (List Int)) : Decidable (twoslotref03_Inverse.all k n X) := by unfold twoslotref03_Inverse.all; infer_instance
def twoslotref03_Inverse.f (k : Nat) (l0 : List (List Int)) : Option (List (List Int) × Int) := (twoslotref03_Check.f k l0).bind fun e => if e = 0 then (if twoslotref03_Inverse.ok l0 then (if l0.length = (rw_ l0 0).length then
    (twoslotref03_blank.f k (l0.length : Int) ((2 * l0.length : Nat) : Int)).bind fun z => if z = List.replicate l0.length (List.replicate (2 * l0.length) 0) then
    (twoslotref03_steps.f k (twoslotref03_Inverse.X l0) l0.length).bind fun q => if q.2 < l0.length then some ([], 5) else
    (twoslotref03_blank.f k (l0.length : Int) (l0.length : Int)).bind fun o => if o = List.replicate l0.length (List.replicate l0.length 0) then
    (if twoslotref03_Inverse.all k l0.length q.1 then some (twoslotref03_Inverse.M k l0.length q.1, 0) else none) else none else none
  else some ([], 30)) else none) else some ([], 30)
theorem twoslotref03_Inverse.d_up {k n : Nat} {X : List (List Int)} {i j : Nat} (h : (twoslotref03_Inverse.d k n X i j).isSome = true) : twoslotref03_Inverse.d (k + 1) n X i j = twoslotref03_Inverse.d k n X i j := by
  obtain ⟨x, hx⟩ := Option.isSome_iff_exists.1 h
  rw [hx]
  exact twoslotref01_Div.mono _ _ _ _ hx
theorem twoslotref03_Inverse.mono : ∀ a0 k, LeO (twoslotref03_Inverse.f k a0) (twoslotref03_Inverse.f (k + 1) a0) := fun a0 k => LeO.bind (twoslotref03_Check.mono _ _) (fun _ => LeO.ite (LeO.ite (LeO.ite (LeO.bind (twoslotref03_blank.mono _ _ _) (fun _ => LeO.ite (LeO.bind (twoslotref03_steps.mono _ _ _) (fun q => LeO.ite (LeO.refl _) (LeO.bind (twoslotref03_blank.mono _ _ _) (fun _ => LeO.ite (fun r hr => by
  by_cases h : twoslotref03_Inverse.all k a0.length q.1
  case neg => rw [if_neg h] at hr; cases hr
  rw [if_pos h] at hr
  have h' : twoslotref03_Inverse.all (k + 1) a0.length q.1 := fun i hi j hj => by rw [twoslotref03_Inverse.d_up (h i hi j hj)]; exact h i hi j hj
  rw [if_pos h', ← hr]
  have e : twoslotref03_Inverse.M (k + 1) a0.length q.1 = twoslotref03_Inverse.M k a0.length q.1 := by
    unfold twoslotref03_Inverse.M
    refine List.map_congr_left (fun i hi => List.map_congr_left (fun j hj => ?_))
    unfold twoslotref03_Inverse.G
    rw [twoslotref03_Inverse.d_up (h i (List.mem_range.1 hi) j (List.mem_range.1 hj))]
  rw [e]) (LeO.refl _))))) (LeO.refl _))) (LeO.refl _)) (LeO.refl _)) (LeO.refl _))
theorem twoslotref03_Inverse.ext {A B : List (List Int)} (hl : A.length = B.length) (h : ∀ k, k < A.length → rw_ A k = rw_ B k) : A = B := by
  apply List.ext_getElem hl
  intro k h1 h2
  have := h k h1
  simpa [rw_, h1, h2] using this
theorem twoslotref03_Inverse.rw_map {n k : Nat} (f : Nat → List Int) (h : k < n) : rw_ ((List.range n).map f) k = f k := by simp [rw_, h]
theorem twoslotref03_Inverse.rw_rep {n k : Nat} (x : List Int) (h : k < n) : rw_ (List.replicate n x) k = x := by simp [rw_, h]
set_option maxHeartbeats 16000000 in
set_option maxRecDepth 100000 in
theorem twoslotref03_Inverse.calls (k : Nat) (A0 : Option Addr) (c0 : Nat) (l0 : List (List Int)) (r1 : List (List Int)) (r2 : Int) (w : World) (hr0 : Kd.C (Kd.slice 5 (Kd.int .u8)) w A0 l0.length l0) (hc0 : l0.length ≤ c0) (h : twoslotref03_Inverse.f k l0 = some (r1, r2)) :
    Calls Try.prog 29 #[.slice A0 l0.length c0] w fun e w' => ∃ v0_ : Value, e = .returned (.tuple #[v0_, .int .i64 r2]) ∧ Kd.S (Kd.slice 5 (Kd.int .u8)) 34 w' w.heap.size (fun _ => True) v0_ r1 ∧ Below w.heap.size w w' := by
  obtain ⟨e, he, h⟩ := Option.bind_eq_some_iff.mp h
  have HE := Lib.hid he
  have HR := Lib.hid hr0
  have HC := Lib.hid hc0
  clear he hr0 hc0
  by_cases h0 : e = 0
  case neg =>
    rw [if_neg h0] at h
    injection h with h; injection h with ha hb; subst ha hb
    have he1 : (e != 0) = true := bne_iff_ne.mpr h0
    clear h0
    go_enter Try.func29, Try.ntmps29
    go_wp2_with fail
    refine (twoslotref03_Check.calls k A0 c0 l0 e _ HR.out HC.out HE.out).mono ?_
    rintro e' w1 ⟨rfl, n, rfl⟩
    go_wp2_with fail
    go_ret2
    exact ⟨_, rfl, Kd.S_nil _ _ _ _ _, pw_below_drewN (Below.refl _ _) n⟩
  rw [if_pos h0] at h
  subst h0
  by_cases hok : twoslotref03_Inverse.ok l0
  case neg => rw [if_neg hok] at h; cases h
  rw [if_pos hok] at h
  have HK := Lib.hid hok
  have hp : (0 : Int) < (l0.length : Int) := by have := hok.1; omega
  obtain ⟨ad, B0, d0, rfl, hx, -, -⟩ : ∃ ad A1 c1, A0 = some ad ∧ w.cell? (ad.add 0) = some (.slice A1 (rw_ l0 0).length c1) ∧ (rw_ l0 0).length ≤ c1 ∧ Kd.C (Kd.int .u8) w A1 (rw_ l0 0).length (rw_ l0 0) := at_L1 HR.out 0 (by omega) (by omega)
  have ea : ad.add 0 = ad := by cases ad; simp [Addr.add]
  rw [ea] at hx
  clear ea hok
  by_cases h1 : l0.length = (rw_ l0 0).length
  case neg =>
    rw [if_neg h1] at h
    injection h with h; injection h with ha hb; subst ha hb
    have he1 : ((l0.length : Int) != ((rw_ l0 0).length : Int)) = true := bne_iff_ne.mpr (by omega)
    clear h1
    go_enter Try.func29, Try.ntmps29
    go_wp2_with fail
    refine (twoslotref03_Check.calls k (some ad) c0 l0 0 _ HR.out HC.out HE.out).mono ?_
    rintro e' w1 ⟨rfl, n, rfl⟩
    replace hx : (w.drewN n).cell? ad = some (.slice B0 (rw_ l0 0).length d0) := hx
    go_wp2_with fail
    go_ret2
    exact ⟨_, rfl, Kd.S_nil _ _ _ _ _, pw_below_drewN (Below.refl _ _) n⟩
  rw [if_pos h1] at h
  have he1 : ((l0.length : Int) != ((rw_ l0 0).length : Int)) = false := bne_eq_false_iff_eq.mpr (by omega)
  obtain ⟨z, hz, h⟩ := Option.bind_eq_some_iff.mp h
  by_cases hzl : z = List.replicate l0.length (List.replicate (2 * l0.length) 0)
  case neg => rw [if_neg hzl] at h; cases h
  rw [if_pos hzl] at h
  obtain ⟨⟨X', r⟩, hs, h⟩ := Option.bind_eq_some_iff.mp h
  have HROW := Lib.hid (fun i (hi : i < l0.length) => (HK.out.2.2.2.2 (rw_ l0 i) (by simp [rw_, hi])).trans h1.symm)
  obtain ⟨N2, hN2⟩ : ∃ N2, N2 = 2 * l0.length := ⟨_, rfl⟩
  rw [← hN2] at hz hzl
  have hmul : wrap64 (2 * (l0.length : Int)) = (N2 : Int) := by have := HK.out.2.1; unfold wrap64; omega
  have HN2 := Lib.hid hN2
  have HZ := Lib.hid hz
  have HZL := Lib.hid hzl
  have HS := Lib.hid hs
  have H := Lib.hid h
  clear hN2 hz hzl hs h h1
  go_enter Try.func29, Try.ntmps29
  go_wp2_with fail
  refine (twoslotref03_Check.calls k (some ad) c0 l0 0 _ HR.out HC.out HE.out).mono ?_
  rintro e' w1 ⟨rfl, n, hw⟩
  replace hx : w1.cell? ad = some (.slice B0 (rw_ l0 0).length d0) := by rw [hw]; exact hx
  have HB := Lib.hid (show Below w.heap.size w w1 by rw [hw]; exact pw_below_drewN (Below.refl _ _) n)
  clear hw
  go_wp2_with fail
  refine (twoslotref03_blank.calls k (l0.length : Int) (N2 : Int) z _ HZ.out).mono ?_
  rintro e' w2 ⟨v1, rfl, ho, hb⟩
  obtain ⟨g, cap, b, c, rfl, -, hM⟩ := Mat.of_S (m := N2) ho (by rw [HZL.out]; intro r hr; rw [(List.mem_replicate.1 hr).2]; simp) (by rw [HZL.out]; simpa using HK.out.1) (by rw [HN2.out]; have := HK.out.1; omega)
  have HL := Lib.hid (show z.length = l0.length by rw [HZL.out]; simp)
  have HM := Lib.hid (hM.mono (S' := fun k => w.heap.size ≤ k) (fun k hk => Nat.le_trans HB.out.size hk))
  replace HB := Lib.hid (below_step HB.out hb)
  clear ho hb hM hx he1
  rw [HL.out]
  go_wp2_with fail
  go_loopg [6] l0.length (fun gk s6 wx => ∃ (i : Nat) (M4 : List (List Int)), i + gk = l0.length ∧ s6 = .int .i64 i ∧ Aside0 (M4.length = l0.length ∧ ∀ q, q < l0.length → rw_ M4 q = if q < i then twoslotref03_Inverse.xr l0 l0.length q else List.replicate N2 0) ∧ Aside0 (Mat wx (fun k => w.heap.size ≤ k) g cap b c M4 N2) ∧ Aside0 (Below w.heap.size w wx))
  case atStart => exact ⟨0, z, by omega, rfl, ⟨HL.out, fun q hq => by rw [if_neg (by omega), HZL.out, twoslotref03_Inverse.rw_rep _ hq]⟩, ⟨HM.out⟩, ⟨HB.out⟩⟩
  case round =>
    clear HM HB HL HZ HZL
    obtain ⟨i, M4, hig, rfl, HL, HM, HB⟩ := hrel
    have hle : (i : Int) ≤ (l0.length : Int) := by omega
    cases gk with
    | zero =>
      obtain rfl : i = l0.length := by omega
      have hX : M4 = twoslotref03_Inverse.X l0 := twoslotref03_Inverse.ext (by rw [HL.out.1]; simp [twoslotref03_Inverse.X]) (fun q hq => by
        have hq' : q < l0.length := by rw [← HL.out.1]; exact hq
        rw [HL.out.2 q hq', if_pos hq']
        unfold twoslotref03_Inverse.X
        rw [twoslotref03_Inverse.rw_map _ hq'])
      have HXL := Lib.hid (show (twoslotref03_Inverse.X l0).length = l0.length by simp [twoslotref03_Inverse.X])
      rw [hX] at HM
      clear hX HL
      go_wp2_with fail
      have hC := twoslotref03_steps.calls k _ g cap N2 l0.length b c (twoslotref03_Inverse.X l0) X' r w _ HB.out HM.out (fun k hk => hk) (by rw [HXL.out]; exact HK.out.2.1) (by rw [HN2.out]; omega) (by rw [HN2.out]; have := HK.out.2.1; omega) HS.out
      rw [HXL.out] at hC
      refine hC.mono ?_
      clear hC
      rintro e' w3 ⟨rfl, ⟨b3, c3, hM⟩, hl3, hb⟩
      have HM3 := Lib.hid ((Mat.size hM).mono (S' := fun k => w.heap.size ≤ k ∧ k < w3.heap.size) (fun k hk => hk))
      have HL3 := Lib.hid (show X'.length = l0.length from hl3)
      replace HB := Aside0.mk hb
      clear hM hl3 hb HM HS
      by_cases hlt : r < l0.length
      case pos =>
        have h := H.out
        rw [if_pos hlt] at h
        injection h with h; injection h with ha hb; subst ha hb
        have hd2 : (r : Int) < (l0.length : Int) := by omega
        clear hlt H
        go_wp2_with fail
        go_ret2
        exact ⟨_, rfl, Kd.S_nil _ _ _ _ _, HB.out⟩
      case neg =>
        have h := H.out
        rw [if_neg hlt] at h
        have hd2 : ¬ (r : Int) < (l0.length : Int) := by omega
        obtain ⟨o, ho, h⟩ := Option.bind_eq_some_iff.mp h
        by_cases hol : o = List.replicate l0.length (List.replicate l0.length 0)
        case neg => rw [if_neg hol] at h; cases h
        rw [if_pos hol] at h
        by_cases hall : twoslotref03_Inverse.all k l0.length X'
        case neg => rw [if_neg hall] at h; cases h
        rw [if_pos hall] at h
        injection h with h; injection h with ha hb; subst hb
        have HA := Lib.hid ha
        have HO := Lib.hid ho
        have HOL := Lib.hid hol
        have HAL := Lib.hid hall
        clear ha ho hol hall h hlt H
        go_wp2_with fail
        refine (twoslotref03_blank.calls k (l0.length : Int) (l0.length : Int) o _ HO.out).mono ?_
        rintro e' w4 ⟨v2, rfl, ho, hb⟩
        obtain ⟨g2, cap2, b2, c2, rfl, -, hM2⟩ := Mat.of_S (m := l0.length) ho (by rw [HOL.out]; intro r hr; rw [(List.mem_replicate.1 hr).2]; simp) (by rw [HOL.out]; simpa using HK.out.1) HK.out.1
        have HL2 := Lib.hid (show o.length = l0.length by rw [HOL.out]; simp)
        have HM2 := Lib.hid hM2
        replace HM3 := Lib.hid (HM3.out.below hb)
        have HZ3 := Lib.hid HB.out.size
        replace HB := Aside0.mk (below_step HB.out hb)
        clear ho hb hM2 hd2
        rw [HL2.out]
        generalize w3.heap.size = B3 at HM3 HM2 HZ3
        go_wp2_with fail
        go_loopg [8] l0.length (fun gk s8 wx => ∃ (i : Nat) (M5 : List (List Int)), i + gk = l0.length ∧ s8 = .int .i64 i ∧ Aside0 (M5.length = l0.length ∧ ∀ q, q < l0.length → rw_ M5 q = if q < i then mrow (twoslotref03_Inverse.G k l0.length X' q) l0.length l0.length else List.replicate l0.length 0) ∧ Aside0 (Mat wx (fun k => B3 ≤ k) g2 cap2 b2 c2 M5 l0.length) ∧ Aside0 (Mat wx (fun k => w.heap.size ≤ k ∧ k < B3) g cap b3 c3 X' N2) ∧ Aside0 (Below w.heap.size w wx))
        case atStart => exact ⟨0, o, by omega, rfl, ⟨HL2.out, fun q hq => by rw [if_neg (by omega), HOL.out, twoslotref03_Inverse.rw_rep _ hq]⟩, ⟨HM2.out⟩, ⟨HM3.out⟩, ⟨HB.out⟩⟩
        case round =>
          clear HM2 HM3 HB HL2 HO HOL
          obtain ⟨i, M5, hig, rfl, HL, HM2, HM3, HB⟩ := hrel
          have hle : (i : Int) ≤ (l0.length : Int) := by omega
          cases gk with
          | zero =>
            obtain rfl : i = l0.length := by omega
            have hX : M5 = twoslotref03_Inverse.M k l0.length X' := twoslotref03_Inverse.ext (by rw [HL.out.1]; simp [twoslotref03_Inverse.M]) (fun q hq => by
              have hq' : q < l0.length := by rw [← HL.out.1]; exact hq
              rw [HL.out.2 q hq', if_pos hq', mrow_all]
              unfold twoslotref03_Inverse.M
              rw [twoslotref03_Inverse.rw_map _ hq'])
            have HF := Lib.hid (HM2.out.toS (base := w.heap.size) (fun k hk => Nat.le_trans HZ3.out hk))
            rw [hX, HA.out] at HF
            have hl5 : r1.length = l0.length := by rw [← HA.out]; simp [twoslotref03_Inverse.M]
            rw [hl5] at HF
            clear hX hl5 HL HM2 HM3
            go_wp2_with fail
            go_ret2
            exact ⟨_, rfl, HF.out, HB.out⟩
          | succ d =>
            have hi1 : (i : Int) < (l0.length : Int) := by omega
            go_wp2_with fail
            go_loopg [9] l0.length (fun gk s9 wx => ∃ (j : Nat) (M6 : List (List Int)), j + gk = l0.length ∧ s9 = .int .i64 j ∧ Aside0 (M6.length = l0.length ∧ ∀ q, q < l0.length → rw_ M6 q = if q = i then mrow (twoslotref03_Inverse.G k l0.length X' i) l0.length j else rw_ M5 q) ∧ Aside0 (Mat wx (fun k => B3 ≤ k) g2 cap2 b2 c2 M6 l0.length) ∧ Aside0 (Mat wx (fun k => w.heap.size ≤ k ∧ k < B3) g cap b3 c3 X' N2) ∧ Aside0 (Below w.heap.size w wx))
            case atStart => exact ⟨0, M5, by omega, rfl, ⟨HL.out.1, fun q hq => by
              by_cases e : q = i
              · rw [if_pos e, HL.out.2 q hq, if_neg (by omega)]; simp [mrow]
              · rw [if_neg e]⟩, ⟨HM2.out⟩, ⟨HM3.out⟩, ⟨HB.out⟩⟩
            case round =>
              clear HM2 HM3 HB
              obtain ⟨j, M6, hjg, rfl, HL6, HM2, HM3, HB⟩ := hrel
              have hlj : (j : Int) ≤ (l0.length : Int) := by omega
              cases gk with
              | zero =>
                obtain rfl : j = l0.length := by omega
                go_wp2_with fail
                go_roundg d
                case measure => omega
                case rel => exact ⟨i + 1, M6, by omega, by have := HK.out.2.1; rw [show wrap64 ((i : Int) + 1) = ((i + 1 : Nat) : Int) by unfold wrap64; omega], ⟨HL6.out.1, fun q hq => by
                  rw [HL6.out.2 q hq]
                  by_cases e : q = i
                  · subst e; rw [if_pos rfl, if_pos (by omega)]
                  · rw [if_neg e, HL.out.2 q hq]
                    by_cases e2 : q < i
                    · rw [if_pos e2, if_pos (by omega)]
                    · rw [if_neg e2, if_neg (by omega)]⟩, ⟨HM2.out⟩, ⟨HM3.out⟩, ⟨HB.out⟩⟩
              | succ d2 =>
                have hj1 : (j : Int) < (l0.length : Int) := by omega
                obtain ⟨p, hpe⟩ : ∃ p, p = l0.length + j := ⟨_, rfl⟩
                have hw : wrap64 ((l0.length : Int) + (j : Int)) = (p : Int) := by have := HK.out.2.1; unfold wrap64; omega
                have hw2 : IntKind.i64.wrap ((l0.length : Int) + (j : Int)) = (p : Int) := (IntWalk.i64_left _).trans hw
                have hp2 : (p : Int) < (N2 : Int) := by have := HN2.out; omega
                have hi2 : (i : Int) < (N2 : Int) := by have := HN2.out; omega
                have HI := Lib.hid (show i < M6.length by rw [HL6.out.1]; omega)
                have HI3 := Lib.hid (show i < X'.length by rw [HL3.out]; omega)
                obtain ⟨⟨t1, t2⟩, ht⟩ := Option.isSome_iff_exists.1 (HAL.out i (by omega) j (by omega))
                have HT := Lib.hid (show twoslotref01_Div.f k (rd (rw_ X' i) (p : Int)) (rd (rw_ X' i) (i : Int)) = some (t1, t2) by rw [hpe]; exact ht)
                have HG := Lib.hid (show twoslotref03_Inverse.G k l0.length X' i j = t1 by unfold twoslotref03_Inverse.G; rw [ht]; rfl)
                have hy1 := HM2.out.out HI.out
                have hy2 := HM3.out.out HI3.out
                have hy3 := HM3.out.at_ HI3.out (j := p) (by omega)
                have hy4 := HM3.out.at_ HI3.out (j := i) (by omega)
                have hz1 := HM2.out.at_ HI.out (j := j) (by omega)
                have hz2 := HM2.out.atF HI.out j
                have NE1 := Lib.hid (fun z : g2 = b2 i => (HM2.out.2.2.1 i HI.out).1 z.symm)
                have NE2 := Lib.hid (show g ≠ b2 i by have h1 : B3 ≤ b2 i := HM2.out.own HI.out; have h2 := HM3.out.2.1; omega)
                have NE3 := Lib.hid (show b3 i ≠ b2 i by have h1 : B3 ≤ b2 i := HM2.out.own HI.out; have h2 := HM3.out.own HI3.out; omega)
                clear ht hpe
                go_wp2_with fail
                go_region_held3 (fun w' => w'.cell? ⟨g2, i, none⟩ = some (.slice (some ⟨b2 i, 0, none⟩) l0.length (c2 i)) ∧ w'.cell? ⟨g, i, none⟩ = some (.slice (some ⟨b3 i, 0, none⟩) N2 (c3 i)) ∧ w'.cell? ⟨b3 i, p, none⟩ = some (.int .u8 (rd (rw_ X' i) (p : Int))) ∧ w'.cell? ⟨b3 i, i, none⟩ = some (.int .u8 (rd (rw_ X' i) (i : Int)))) (first | exact ⟨hy1, hy2, hy3, hy4⟩ | exact ⟨(far_cell NE1.out _).trans hy1, (far_cell NE2.out _).trans hy2, (far_cell NE3.out _).trans hy3, (far_cell NE3.out _).trans hy4⟩) (first | ((go_at_call 46; refine (twoslotref01_Div.calls k _ _ t1 t2 _ HT.out).mono ?_; rintro e w' ⟨rfl, n, rfl⟩)))
                have HB7 := Lib.hid (below_set (g := b2 i) (j := j) (v := .int .u8 t1) (pw_below_drewN HB.out (1 + n)) (Nat.le_trans HZ3.out (HM2.out.own HI.out)))
                have HM8 := Lib.hid ((HM2.out.below (pw_below_drewN (Below.refl _ _) (1 + n))).store HI.out (j := j) (by omega) t1)
                have HM9 := Lib.hid ((HM3.out.below (pw_below_drewN (Below.refl _ _) (1 + n))).keep (W' := (wr.drewN (1 + n)).setCell ⟨b2 i, j, none⟩ (.int .u8 t1)) (fun k hk => Below.heap_setCell _ ⟨b2 i, j, none⟩ _ k (fun z => by have h1 : B3 ≤ b2 i := HM2.out.own HI.out; have z' : k = b2 i := z; omega)))
                clear hy1 hy2 hy3 hy4 hz1 hz2 HM2 HM3 HB
                go_wp2_with fail
                go_roundg d2
                case measure => omega
                case rel => exact ⟨j + 1, _, by omega, by have := HK.out.2.1; rw [show wrap64 ((j : Int) + 1) = ((j + 1 : Nat) : Int) by unfold wrap64; omega], ⟨by rw [List.length_set]; exact HL6.out.1, fun q hq => by
                  rw [rw_set HI.out]
                  by_cases e : q = i
                  · subst e
                    rw [if_pos rfl, if_pos rfl, HL6.out.2 q hq, if_pos rfl, ← HG.out, mrow_set _ (by omega)]
                  · rw [if_neg e, if_neg e, HL6.out.2 q hq, if_neg e]⟩, ⟨HM8.out⟩, ⟨HM9.out⟩, ⟨HB7.out⟩⟩
    | succ d =>
      have hi1 : (i : Int) < (l0.length : Int) := by omega
      have hi : i < M4.length := by rw [HL.out.1]; omega
      obtain ⟨ad2, A1, c1, ead, hx, hd1, hr1⟩ : ∃ ad' A1 c1, some ad = some ad' ∧ wr.cell? (ad'.add i) = some (.slice A1 (rw_ l0 i).length c1) ∧ (rw_ l0 i).length ≤ c1 ∧ Kd.C (Kd.int .u8) wr A1 (rw_ l0 i).length (rw_ l0 i) := at_L1 (Kd.C_below HR.out HB.out) (i : Int) (by omega) (by omega)
      cases ead
      have hrl := HROW.out i (by omega)
      have hx1 := HM.out.out hi
      obtain ⟨cur, hcur, hcs, hMc⟩ := (HM.out.below (below_drew (Below.refl _ _))).copy hi (rw_ l0 i) (by rw [hrl, HN2.out]; omega)
      obtain ⟨ad3, rfl, hsrc⟩ : ∃ ad3, A1 = some ad3 ∧ ∀ j v, (nums .u8 (rw_ l0 i))[j]? = some v → wr.cell? (ad3.add j) = some v := by
        obtain ⟨ad3, e3, -⟩ := Kd.at_int hr1 0 (by omega) (by have := HK.out.1; omega)
        refine ⟨ad3, e3, fun j v hj => ?_⟩
        have hjl : j < (rw_ l0 i).length := by
          have := (List.getElem?_eq_some_iff.1 hj).1
          simpa [nums] using this
        obtain ⟨ad4, e4, hx4⟩ := Kd.at_int hr1 (j : Int) (by omega) (by omega)
        rw [e3] at e4
        injection e4 with e4
        subst e4
        rw [Int.toNat_natCast] at hx4
        rw [hx4]
        simp only [nums, List.getElem?_map, List.getElem?_eq_getElem hjl, Option.map_some] at hj
        injection hj with hj
        rw [← hj]
        simp [rd, hjl]
      have HSRC := Lib.hid hsrc
      have HCUR := Lib.hid hcur
      have HCS := Lib.hid hcs
      have HMC := Lib.hid hMc
      have HRL := Lib.hid hrl
      have HBD := Lib.hid (below_setRow (g := b i) (below_drew HB.out) ((HM.out.own hi)) (cur.toList.take 0 ++ (nums .u8 (rw_ l0 i) ++ cur.toList.drop (0 + (nums .u8 (rw_ l0 i)).length))).toArray)
      have HI := Lib.hid hi
      clear hsrc hcur hcs hMc hd1 hr1 hi
      rw [hrl] at hx
      clear hrl
      go_wp2_with fail
      go_still_tail 8, (by kernel_rfl)
      change wpList _ _ _ _ _ wr.drew
      clear hx hx1
      go_upto_region 9 with ((with_reducible refine gate_builtin (b := .copy) (xs := #[.tmp 36, .tmp 40]) rfl ?_); refine wpList_copy_own rfl (.tmp 36) (.tmp 40) 34 34 rfl 5 Try.underlying34 twoslotref03_Inverse.info1 (b i) 0 N2 (c i) ad3 l0.length c1 rfl rfl cur 5 HCUR.out (nums .u8 (rw_ l0 i)) ?cn HSRC.out ?cf ?co ?_; (case cn => rw [show (nums .u8 (rw_ l0 i)).length = l0.length by simp [nums]; exact HRL.out]; have := HN2.out; exact (Nat.min_eq_left (by omega)).symm); (case cf => have := HCS.out; simp [nums]; omega); (case co => intro v hv; simp only [nums, List.mem_map] at hv; obtain ⟨x, _, rfl⟩ := hv; rfl); generalize wr.drew.setRow (b i) (cur.toList.take 0 ++ (nums .u8 (rw_ l0 i) ++ cur.toList.drop (0 + (nums .u8 (rw_ l0 i)).length))).toArray = w5 at HMC HBD ⊢)
      have HI2 := Lib.hid (show i < (M4.set i (rw_ l0 i ++ (rw_ M4 i).drop (rw_ l0 i).length)).length by rw [List.length_set]; exact HI.out)
      have hx1 := HMC.out.out HI2.out
      obtain ⟨p, hpe⟩ : ∃ p, p = l0.length + i := ⟨_, rfl⟩
      have hw : wrap64 ((l0.length : Int) + (i : Int)) = (p : Int) := by have := HK.out.2.1; unfold wrap64; omega
      have hp2 : (p : Int) < (N2 : Int) := by have := HN2.out; omega
      have hx2 := HMC.out.at_ HI2.out (j := p) (by omega)
      have hxf := HMC.out.atF HI2.out p
      have HM6 := Lib.hid (HMC.out.store HI2.out (j := p) (by omega) 1)
      have HB6 := Lib.hid (below_set (g := b i) (j := p) (v := .int .u8 1) HBD.out (HM.out.own HI.out))
      have HPE := Lib.hid hpe
      clear hpe HM HB HMC HBD HSRC HCUR HCS
      go_wp2_with fail
      go_roundg d
      case measure => omega
      case rel => exact ⟨i + 1, _, by omega, by have := HK.out.2.1; rw [show wrap64 ((i : Int) + 1) = ((i + 1 : Nat) : Int) by unfold wrap64; omega], ⟨by rw [List.length_set, List.length_set]; exact HL.out.1, fun q hq => by
        rw [rw_set HI2.out, rw_set HI.out, rw_set HI.out]
        by_cases e : q = i
        · subst e
          rw [if_pos rfl, if_pos rfl, if_pos (by omega), HPE.out, HL.out.2 q hq, if_neg (by omega), HRL.out]
          unfold twoslotref03_Inverse.xr
          rw [List.set_append_right _ _ (by rw [HRL.out]; omega), HRL.out, Nat.add_sub_cancel_left, HN2.out, List.drop_replicate, show 2 * l0.length - l0.length = l0.length by omega]
        · rw [if_neg e, if_neg e, HL.out.2 q hq]
          by_cases e2 : q < i
          · rw [if_pos e2, if_pos (by omega)]
          · rw [if_neg e2, if_neg (by omega)]⟩, ⟨HM6.out⟩, ⟨HB6.out⟩⟩

end Go.Proofs.Ytmeckhfoajfapaa.PT
