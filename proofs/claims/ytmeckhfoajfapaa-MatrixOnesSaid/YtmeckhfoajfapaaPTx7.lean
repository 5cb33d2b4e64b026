-- written by the session's own program (wip/prt.py) over the kit's print: not print.sh's own text
import Derived.Test.YtmeckhfoajfapaaPTx0
import Derived.Test.YtmeckhfoajfapaaPTx2
import Derived.Test.YtmeckhfoajfapaaPTx3
import Derived.Test.YtmeckhfoajfapaaPTx4
import Derived.Test.YtmeckhfoajfapaaPTx5
namespace Go.Proofs.Ytmeckhfoajfapaa.PT
open Go.RowKit Go.Proofs.YtmeckhfoajfapaaW.PrintWords Go.Proofs.YtmeckhfoajfapaaW.PrintLast Go.Proofs.YtmeckhfoajfapaaW.PrintMore
attribute [local go_sem] max2_int min2_int max_two min_two max_three min_three max_four min_four   -- for this text's walks alone
set_option linter.unusedVariables false
set_option linter.unusedSimpArgs false

/-! ### matrix_Pick: function 12 -/
def matrix_Pick.row (l0 : List (List Int)) (i : Int) : List Int := l0.getD i.toNat ([] : List Int)
def matrix_Pick.M (l0 : List (List Int)) (l1 : List Int) : List (List Int) := (List.range l1.length).map (fun (i : Nat) => (List.range (matrix_Pick.row l0 0).length).map (fun (j : Nat) => rd (matrix_Pick.row l0 (rd l1 (i : Int))) (j : Int)))
def matrix_Pick.f (k : Nat) (l0 : List (List Int)) (l1 : List Int) : Option (List (List Int) × Int) := (matrix_Check.f k l0).bind fun e => if e = 0 then (if l1.length < 1 then some ([], 2) else if 32 < l1.length then some ([], 2) else if ∀ x ∈ l1, 0 ≤ x ∧ x < l0.length then (if 0 < l0.length ∧ l0.length ≤ 100 ∧ (matrix_Pick.row l0 0).length ≤ 100 ∧ ∀ a ∈ l0, a.length = (matrix_Pick.row l0 0).length then some (matrix_Pick.M l0 l1, 0) else none) else some ([], 2)) else some ([], e)
theorem matrix_Pick.mono : ∀ a0 a1 k, LeO (matrix_Pick.f k a0 a1) (matrix_Pick.f (k + 1) a0 a1) := fun a0 _ k => LeO.bind (matrix_Check.mono _ _) (fun _ => LeO.refl _)
theorem matrix_Pick.row_mem {l0 : List (List Int)} {j : Int} (h0 : 0 ≤ j) (h : j < l0.length) : matrix_Pick.row l0 j ∈ l0 := by unfold matrix_Pick.row; rw [List.getD_eq_getElem?_getD, List.getElem?_eq_getElem (by omega)]; exact List.getElem_mem _
theorem matrix_Pick.rd_mem {l : List Int} {n : Nat} (h : n < l.length) : rd l n ∈ l := by unfold rd; rw [Int.toNat_natCast, List.getD_eq_getElem?_getD, List.getElem?_eq_getElem h]; exact List.getElem_mem _
theorem matrix_Pick.at_ {w : World} {A : Option Addr} {n : Nat} {xs : List (List Int)} (h : Kd.C (Kd.slice 5 (Kd.int .u8)) w A n xs) (i : Int) (h0 : 0 ≤ i) (h1 : i < n) : ∃ ad A0 c0, A = some ad ∧ w.cell? (ad.add i.toNat) = some (.slice A0 (matrix_Pick.row xs i).length c0) ∧ (matrix_Pick.row xs i).length ≤ c0 ∧ Kd.C (Kd.int .u8) w A0 (matrix_Pick.row xs i).length (matrix_Pick.row xs i) := at_L1 h i h0 h1
set_option maxHeartbeats 1000000 in
theorem matrix_Pick.lit (l0 : List (List Int)) (A0 : Option Addr) (c0 : Nat) (l1 : List Int) (B : Option Addr) (cb : Nat) (g g2 : Nat) (i j : Nat) (W : World) (hg : W.cell? ⟨g, 0, none⟩ = some (.slice A0 l0.length c0)) (hg2 : W.cell? ⟨g2, 0, none⟩ = some (.slice B l1.length cb)) (hr : Kd.C (Kd.slice 5 (Kd.int .u8)) W A0 l0.length l0) (hr2 : Kd.C (Kd.int .i64) W B l1.length l1) (hi : i < l1.length) (hn : 0 ≤ rd l1 i ∧ rd l1 i < l0.length) (hj : j < (matrix_Pick.row l0 (rd l1 i)).length) :
    Calls Try.prog 37 #[.int .i64 i, .int .i64 j, .pointer (some ⟨g, 0, none⟩), .pointer (some ⟨g2, 0, none⟩)] W fun e w' => e = .returned (.int .u8 (rd (matrix_Pick.row l0 (rd l1 i)) j)) ∧ Below W.heap.size W w' := by
  obtain ⟨ad0, rfl, hx0⟩ := Kd.at_int hr2 (i : Int) (by omega) (by omega)
  obtain ⟨ad, A1, c1, rfl, hx1, hc1, hr1⟩ := matrix_Pick.at_ hr (rd l1 i) hn.1 hn.2
  obtain ⟨ad2, rfl, hx2⟩ := Kd.at_int hr1 (j : Int) (by omega) (by omega)
  simp only [Int.toNat_natCast] at hx0 hx2
  have hi1 : (i : Int) < (l1.length : Int) := by omega
  obtain ⟨hn1, hn2⟩ := hn
  have hj1 : (j : Int) < ((matrix_Pick.row l0 (rd l1 i)).length : Int) := by omega
  clear hr hr1 hr2
  go_enter Try.func37, Try.ntmps37
  go_wp2_with fail
  go_quiet (fail)
  go_wp2_with fail
  go_ret
  exact ⟨rfl, pw_below_drewN (Below.refl _ _) nq⟩
set_option maxHeartbeats 4000000 in
theorem matrix_Pick.calls (k : Nat) (A0 : Option Addr) (c0 : Nat) (l0 : List (List Int)) (A1 : Option Addr) (c1 : Nat) (l1 : List Int) (r1 : List (List Int)) (r2 : Int) (w : World) (hr0 : Kd.C (Kd.slice 5 (Kd.int .u8)) w A0 l0.length l0) (hc0 : l0.length ≤ c0) (hr1 : Kd.C (Kd.int .i64) w A1 l1.length l1) (hc1 : l1.length ≤ c1) (h : matrix_Pick.f k l0 l1 = some (r1, r2)) :
    Calls Try.prog 12 #[.slice A0 l0.length c0, .slice A1 l1.length c1] w fun e w' => ∃ v0_ : Value, e = .returned (.tuple #[v0_, .int .i64 r2]) ∧ Kd.S (Kd.slice 5 (Kd.int .u8)) 34 w' w.heap.size (fun _ => True) v0_ r1 ∧ Below w.heap.size w w' := by
  obtain ⟨e, he, h⟩ := Option.bind_eq_some_iff.mp h
  have HE := Lib.hid he
  have HR := Lib.hid hr0
  have HC := Lib.hid hc0
  have HR1 := Lib.hid hr1
  have HC1 := Lib.hid hc1
  have HB := Lib.hid (below_alloc (below_alloc (Below.refl w.heap.size w) (.cells #[.slice A0 l0.length c0] 23)) (.cells #[.slice A1 l1.length c1] 29))
  have HG := Lib.hid (blk_alloc (blk_new w (.cells #[.slice A0 l0.length c0] 23)) (.cells #[.slice A1 l1.length c1] 29))
  have hg1 := blk_new (w.alloc (.cells #[.slice A0 l0.length c0] 23)) (.cells #[.slice A1 l1.length c1] 29)
  rw [show (w.alloc (.cells #[.slice A0 l0.length c0] 23)).heap.size = w.heap.size + 1 from Array.size_push _] at hg1
  have HG1 := Lib.hid hg1
  clear hg1
  clear he hr0 hc0 hr1 hc1
  by_cases h0 : e = 0
  · rw [if_pos h0] at h
    subst h0
    have H := Lib.hid h
    clear h
    go_enter Try.func12, Try.ntmps12
    go_wp2_with fail
    refine (matrix_Check.calls k A0 c0 l0 0 _ (Kd.C_below HR.out HB.out) HC.out HE.out).mono ?_
    rintro e w' ⟨rfl, ⟨nd, rfl⟩⟩
    replace HB := Lib.hid (pw_below_drewN HB.out nd)
    replace HG := Lib.hid (blk_drewN HG.out nd)
    replace HG1 := Lib.hid (blk_drewN HG1.out nd)
    generalize ((w.alloc (.cells #[.slice A0 l0.length c0] 23)).alloc (.cells #[.slice A1 l1.length c1] 29)).drewN nd = w1 at HB HG HG1 ⊢
    generalize w.heap.size + 1 = g2 at HG1 ⊢
    dsimp only
    have hx0 : w1.cell? ⟨w.heap.size, 0, none⟩ = some (.slice A0 l0.length c0) := (blk_cell HG.out 0).trans rfl
    have hx1 : w1.cell? ⟨g2, 0, none⟩ = some (.slice A1 l1.length c1) := (blk_cell HG1.out 0).trans rfl
    by_cases h1 : l1.length < 1
    · have H1 := Lib.hid h1
      have h1' : (l1.length : Int) < 1 := by omega
      clear h1
      go_wp2_with fail
      go_ret2
      have h := H.out
      rw [if_pos H1.out] at h
      injection h with h; injection h with ha hb; subst ha hb
      exact ⟨_, rfl, Kd.S_nil _ _ _ _ _, HB.out⟩
    have H1 := Lib.hid h1
    have h1' : ¬ (l1.length : Int) < 1 := by omega
    clear h1
    by_cases h2 : 32 < l1.length
    · have H2 := Lib.hid h2
      have h2' : (l1.length : Int) > 32 := by omega
      clear h2
      go_wp2_with fail
      go_ret2
      have h := H.out
      rw [if_neg H1.out, if_pos H2.out] at h
      injection h with h; injection h with ha hb; subst ha hb
      exact ⟨_, rfl, Kd.S_nil _ _ _ _ _, HB.out⟩
    have H2 := Lib.hid h2
    have h2' : ¬ (l1.length : Int) > 32 := by omega
    clear h2
    have h := H.out
    rw [if_neg H1.out, if_neg H2.out] at h
    clear H
    have H := Lib.hid h
    clear h
    go_wp2_with fail
    clear h1' h2'
    go_loopg [8, 24] l1.length (fun g s8 s24 wx => ∃ n : Nat, n + g = l1.length ∧ s24 = .int .i64 n ∧ w1 = wx ∧ Aside0 (∀ i : Nat, i < n → 0 ≤ rd l1 i ∧ rd l1 i < l0.length))
    case atStart => exact ⟨0, by omega, rfl, rfl, ⟨fun i hi => by omega⟩⟩
    case round =>
      obtain ⟨n, hng, rfl, rfl, HI⟩ := hrel
      cases gk with
      | zero =>
        obtain rfl : n = l1.length := by omega
        have hall : ∀ x ∈ l1, 0 ≤ x ∧ x < (l0.length : Int) := fun x hx => by
          obtain ⟨i, hi, rfl⟩ := List.mem_iff_getElem.mp hx
          have := HI.out i hi
          unfold rd at this
          rwa [Int.toNat_natCast, List.getD_eq_getElem?_getD, List.getElem?_eq_getElem hi] at this
        have h := H.out
        rw [if_pos hall] at h
        by_cases h3 : 0 < l0.length ∧ l0.length ≤ 100 ∧ (matrix_Pick.row l0 0).length ≤ 100 ∧ ∀ a ∈ l0, a.length = (matrix_Pick.row l0 0).length
        case neg => rw [if_neg h3] at h; cases h
        rw [if_pos h3] at h
        injection h with h; injection h with ha hb; subst hb
        obtain ⟨h3, h4, h5, h6⟩ := h3
        have HA := Lib.hid ha
        have HAll := Lib.hid h6
        clear ha h6 h H hall
        obtain ⟨ad, A2, c2, rfl, hx2, hc2, hr2⟩ := matrix_Pick.at_ (Kd.C_below HR.out HB.out) 0 (by omega) (by omega)
        have ea : ad.add (Int.toNat 0) = ad := by cases ad; simp [Addr.add]
        rw [ea] at hx2
        have hp : (0 : Int) < (l0.length : Int) := by omega
        clear hr2 ea
        go_wp2_with fail
        have hX := made_Pick l1.length (matrix_Pick.row l0 0).length (fun i j => rd (matrix_Pick.row l0 (rd l1 (i : Int))) (j : Int)) w1.drew (by have := H2.out; omega) h5 ⟨w.heap.size, 0, none⟩ ⟨g2, 0, none⟩ (fun i j W hi hj hb => matrix_Pick.lit l0 (some ad) c0 l1 A1 c1 w.heap.size g2 i j W ((hb.cell (p := ⟨w.heap.size, 0, none⟩) (by exact blk_lt HG.out)).trans hx0) ((hb.cell (p := ⟨g2, 0, none⟩) (by exact blk_lt HG1.out)).trans hx1) (Kd.C_below HR.out (below_step (below_drew HB.out) hb)) (Kd.C_below HR1.out (below_step (below_drew HB.out) hb)) hi (HI.out i hi) (by rw [HAll.out _ (matrix_Pick.row_mem (HI.out i hi).1 (HI.out i hi).2)]; exact hj))
        have HX := Lib.hid hX
        clear hX
        go_still_tail 7, (by kernel_rfl)
        change wpList _ _ _ _ _ w1.drew
        clear hx0 hx1 hx2
        go_wp2_with fail
        refine HX.out.mono ?_
        rintro e w' ⟨b, rfl, hr, hb⟩
        have HRW := Lib.hid hr
        have HB2 := Lib.hid (below_step (below_drew HB.out) hb)
        clear hr hb
        go_wp2_with fail
        go_ret2
        refine ⟨_, rfl, ?_, HB2.out⟩
        rw [← HA.out]
        exact HRW.out.S (below_drew HB.out).size (by have := H2.out; omega) (by omega)
      | succ g =>
        have hn : n < l1.length := by omega
        obtain ⟨ad, e1, hx2⟩ := Kd.at_int (Kd.C_below HR1.out HB.out) (n : Int) (by omega) (by omega)
        rw [Int.toNat_natCast] at hx2
        cases e1
        obtain ⟨x, hx⟩ : ∃ x, rd l1 n = x := ⟨_, rfl⟩
        rw [hx] at hx2
        have HX := Lib.hid hx
        clear hx
        by_cases h3 : x < 0
        · go_wp2_with fail
          go_ret2
          have h := H.out
          rw [if_neg (fun hall => by
            have h7 := hall x (by rw [← HX.out]; exact matrix_Pick.rd_mem hn)
            omega)] at h
          injection h with h; injection h with ha hb; subst ha hb
          exact ⟨_, rfl, Kd.S_nil _ _ _ _ _, HB.out⟩
        by_cases h4 : x ≥ (l0.length : Int)
        · go_wp2_with fail
          go_ret2
          have h := H.out
          rw [if_neg (fun hall => by
            have h7 := hall x (by rw [← HX.out]; exact matrix_Pick.rd_mem hn)
            omega)] at h
          injection h with h; injection h with ha hb; subst ha hb
          exact ⟨_, rfl, Kd.S_nil _ _ _ _ _, HB.out⟩
        have H3 := Lib.hid h3
        have H4 := Lib.hid h4
        go_wp2_with fail
        go_roundg g
        case measure => omega
        case rel => exact ⟨n + 1, by omega, by have h7 := H2.out; rw [show wrap64 ((n : Int) + 1) = ((n + 1 : Nat) : Int) by unfold wrap64; omega], rfl, ⟨fun i hi => by
          by_cases hi' : i < n
          · exact HI.out i hi'
          · obtain rfl : i = n := by omega
            rw [HX.out]; have h3 := H3.out; have h4 := H4.out; omega⟩⟩
  · rw [if_neg h0] at h
    injection h with h; injection h with ha hb; subst ha hb
    have he1 : (e != 0) = true := bne_iff_ne.mpr h0
    clear h0
    go_enter Try.func12, Try.ntmps12
    go_wp2_with fail
    refine (matrix_Check.calls k A0 c0 l0 e _ (Kd.C_below HR.out HB.out) HC.out HE.out).mono ?_
    rintro e w' ⟨rfl, ⟨nd, rfl⟩⟩
    go_wp2_with fail
    go_ret2
    exact ⟨_, rfl, Kd.S_nil _ _ _ _ _, pw_below_drewN HB.out nd⟩

/-! ### matrix_Rank: function 24 -/
def matrix_Rank.f (k : Nat) (l0 : List (List Int)) : Option (Int × Int) := (matrix_Check.f k l0).bind fun e => if e = 0 then (if matrix_twin.ok l0 then (matrix_solve.f k l0 l0).bind fun q => some ((q.2.2 : Int), 0) else none) else some (0, e)
theorem matrix_Rank.mono : ∀ a0 k, LeO (matrix_Rank.f k a0) (matrix_Rank.f (k + 1) a0) := fun a0 k => LeO.bind (matrix_Check.mono _ _) (fun _ => LeO.ite (LeO.ite (LeO.bind (matrix_solve.mono _ _ _) (fun _ => LeO.refl _)) (LeO.refl _)) (LeO.refl _))
set_option maxHeartbeats 4000000 in
theorem matrix_Rank.calls (k : Nat) (A0 : Option Addr) (c0 : Nat) (l0 : List (List Int)) (r1 r2 : Int) (w : World) (hr0 : Kd.C (Kd.slice 5 (Kd.int .u8)) w A0 l0.length l0) (hc0 : l0.length ≤ c0) (h : matrix_Rank.f k l0 = some (r1, r2)) :
    Calls Try.prog 24 #[.slice A0 l0.length c0] w fun e w' => e = .returned (.tuple #[.int .i64 r1, .int .i64 r2]) ∧ Below w.heap.size w w' := by
  obtain ⟨e, he, h⟩ := Option.bind_eq_some_iff.mp h
  have HE := Lib.hid he
  have HR := Lib.hid hr0
  have HC := Lib.hid hc0
  clear he hr0 hc0
  by_cases h0 : e = 0
  case neg =>
    rw [if_neg h0] at h
    injection h with h; injection h with ha hb; subst ha hb
    have he1 : (e != 0) = true := bne_iff_ne.mpr h0
    clear h0
    go_enter Try.func24, Try.ntmps24
    go_wp2_with fail
    refine (matrix_Check.calls k A0 c0 l0 e _ HR.out HC.out HE.out).mono ?_
    rintro e' w1 ⟨rfl, n, rfl⟩
    go_wp2_with fail
    go_ret2
    exact ⟨rfl, pw_below_drewN (Below.refl _ _) n⟩
  rw [if_pos h0] at h
  subst h0
  by_cases hok : matrix_twin.ok l0
  case neg => rw [if_neg hok] at h; cases h
  rw [if_pos hok] at h
  obtain ⟨⟨M', B', r⟩, hs, h⟩ := Option.bind_eq_some_iff.mp h
  injection h with h; injection h with ha hb; subst ha hb
  have HS := Lib.hid hs
  have HK := Lib.hid hok
  clear hs hok
  go_enter Try.func24, Try.ntmps24
  go_wp2_with fail
  refine (matrix_Check.calls k A0 c0 l0 0 _ HR.out HC.out HE.out).mono ?_
  rintro e' w1 ⟨rfl, n, hw⟩
  have HB := Lib.hid (show Below w.heap.size w w1 by rw [hw]; exact pw_below_drewN (Below.refl _ _) n)
  clear hw
  go_wp2_with fail
  refine (matrix_twin.calls A0 c0 l0 l0 _ (Kd.C_below HR.out HB.out) HC.out (by unfold matrix_twin.f; rw [if_pos HK.out])).mono ?_
  rintro e' w2 ⟨v1, rfl, ho, hb⟩
  obtain ⟨g, cap, b, c, rfl, -, hM⟩ := Mat.of_S ho HK.out.2.2.2.2 HK.out.1 HK.out.2.2.1
  have HM := Lib.hid ((Mat.size hM).mono (S' := fun k => w.heap.size ≤ k ∧ k < w2.heap.size) (fun k hk => ⟨Nat.le_trans HB.out.size hk.1, hk.2⟩))
  replace HB := Lib.hid (below_step HB.out hb)
  clear ho hb hM
  go_wp2_with fail
  refine (matrix_twin.calls A0 c0 l0 l0 _ (Kd.C_below HR.out HB.out) HC.out (by unfold matrix_twin.f; rw [if_pos HK.out])).mono ?_
  rintro e' w3 ⟨v2, rfl, ho, hb⟩
  obtain ⟨g2, cap2, b2, c2, rfl, -, hM2⟩ := Mat.of_S ho HK.out.2.2.2.2 HK.out.1 HK.out.2.2.1
  have HM2 := Lib.hid hM2
  replace HM := Lib.hid (HM.out.below hb)
  have HZ := Lib.hid HB.out.size
  replace HB := Lib.hid (below_step HB.out hb)
  clear ho hb hM2
  go_wp2_with fail
  refine (matrix_solve.calls k _ _ g g2 cap cap2 _ _ b c b2 c2 l0 l0 M' B' r w _ HB.out HM.out HM2.out (fun k hk => ⟨hk.1, fun z => by have := hk.2; omega⟩) (fun k hk => ⟨Nat.le_trans HZ.out hk, fun z => by have := z.2; omega⟩) ⟨HK.out.1, HK.out.2.1, rfl, HK.out.2.2.1, HK.out.2.2.2.1, HK.out.2.2.1, HK.out.2.2.2.1⟩ HS.out).mono ?_
  rintro e' w4 ⟨rfl, -, -, -, hb⟩
  go_wp2_with fail
  go_ret2
  exact ⟨rfl, hb⟩

/-! ### matrix_Inverse: function 15 -/
def matrix_Inverse.f (k : Nat) (l0 : List (List Int)) : Option (List (List Int) × Int) := (matrix_Check.f k l0).bind fun e => if e = 0 then (if matrix_twin.ok l0 then (if l0.length = (rw_ l0 0).length then (matrix_One.f (l0.length : Int)).bind fun o => if o.2 = 0 ∧ o.1.length = l0.length ∧ (∀ r ∈ o.1, r.length = l0.length) then (matrix_solve.f k l0 o.1).bind fun q => if q.2.2 < l0.length then some ([], 5) else some (q.2.1, 0) else none else some ([], 30)) else none) else some ([], 30)
theorem matrix_Inverse.mono : ∀ a0 k, LeO (matrix_Inverse.f k a0) (matrix_Inverse.f (k + 1) a0) := fun a0 k => LeO.bind (matrix_Check.mono _ _) (fun _ => LeO.ite (LeO.ite (LeO.ite (LeO.bind (LeO.refl _) (fun _ => LeO.ite (LeO.bind (matrix_solve.mono _ _ _) (fun _ => LeO.refl _)) (LeO.refl _))) (LeO.refl _)) (LeO.refl _)) (LeO.refl _))
set_option maxHeartbeats 4000000 in
theorem matrix_Inverse.calls (k : Nat) (A0 : Option Addr) (c0 : Nat) (l0 : List (List Int)) (r1 : List (List Int)) (r2 : Int) (w : World) (hr0 : Kd.C (Kd.slice 5 (Kd.int .u8)) w A0 l0.length l0) (hc0 : l0.length ≤ c0) (h : matrix_Inverse.f k l0 = some (r1, r2)) :
    Calls Try.prog 15 #[.slice A0 l0.length c0] w fun e w' => ∃ v0_ : Value, e = .returned (.tuple #[v0_, .int .i64 r2]) ∧ Kd.S (Kd.slice 5 (Kd.int .u8)) 34 w' w.heap.size (fun _ => True) v0_ r1 ∧ Below w.heap.size w w' := by
  obtain ⟨e, he, h⟩ := Option.bind_eq_some_iff.mp h
  have HE := Lib.hid he
  have HR := Lib.hid hr0
  have HC := Lib.hid hc0
  clear he hr0 hc0
  by_cases h0 : e = 0
  case neg =>
    rw [if_neg h0] at h
    injection h with h; injection h with ha hb; subst ha hb
    have he1 : (e != 0) = true := bne_iff_ne.mpr h0
    clear h0
    go_enter Try.func15, Try.ntmps15
    go_wp2_with fail
    refine (matrix_Check.calls k A0 c0 l0 e _ HR.out HC.out HE.out).mono ?_
    rintro e' w1 ⟨rfl, n, rfl⟩
    go_wp2_with fail
    go_ret2
    exact ⟨_, rfl, Kd.S_nil _ _ _ _ _, pw_below_drewN (Below.refl _ _) n⟩
  rw [if_pos h0] at h
  subst h0
  by_cases hok : matrix_twin.ok l0
  case neg => rw [if_neg hok] at h; cases h
  rw [if_pos hok] at h
  have HK := Lib.hid hok
  have hp : (0 : Int) < (l0.length : Int) := by have := hok.1; omega
  obtain ⟨ad, B0, d0, rfl, hx, -, -⟩ : ∃ ad A1 c1, A0 = some ad ∧ w.cell? (ad.add 0) = some (.slice A1 (rw_ l0 0).length c1) ∧ (rw_ l0 0).length ≤ c1 ∧ Kd.C (Kd.int .u8) w A1 (rw_ l0 0).length (rw_ l0 0) := at_L1 HR.out 0 (by omega) (by omega)
  have ea : ad.add 0 = ad := by cases ad; simp [Addr.add]
  rw [ea] at hx
  clear ea hok
  by_cases h1 : l0.length = (rw_ l0 0).length
  case neg =>
    rw [if_neg h1] at h
    injection h with h; injection h with ha hb; subst ha hb
    have he1 : ((l0.length : Int) != ((rw_ l0 0).length : Int)) = true := bne_iff_ne.mpr (by omega)
    clear h1
    go_enter Try.func15, Try.ntmps15
    go_wp2_with fail
    refine (matrix_Check.calls k (some ad) c0 l0 0 _ HR.out HC.out HE.out).mono ?_
    rintro e' w1 ⟨rfl, n, rfl⟩
    replace hx : (w.drewN n).cell? ad = some (.slice B0 (rw_ l0 0).length d0) := hx
    go_wp2_with fail
    go_ret2
    exact ⟨_, rfl, Kd.S_nil _ _ _ _ _, pw_below_drewN (Below.refl _ _) n⟩
  rw [if_pos h1] at h
  have he1 : ((l0.length : Int) != ((rw_ l0 0).length : Int)) = false := bne_eq_false_iff_eq.mpr (by omega)
  have H1 := Lib.hid h1
  clear h1
  obtain ⟨⟨O, oe⟩, hone, h⟩ := Option.bind_eq_some_iff.mp h
  by_cases ho : oe = 0 ∧ O.length = l0.length ∧ (∀ r ∈ O, r.length = l0.length)
  case neg => rw [if_neg ho] at h; cases h
  rw [if_pos ho] at h
  obtain ⟨rfl, hol, hor⟩ := ho
  obtain ⟨⟨M', B', r⟩, hs, h⟩ := Option.bind_eq_some_iff.mp h
  have HS := Lib.hid hs
  have HO := Lib.hid hone
  have HOL := Lib.hid hol
  have HOR := Lib.hid hor
  have H := Lib.hid h
  clear hs hone hol hor h
  go_enter Try.func15, Try.ntmps15
  go_wp2_with fail
  refine (matrix_Check.calls k (some ad) c0 l0 0 _ HR.out HC.out HE.out).mono ?_
  rintro e' w1 ⟨rfl, n, hw⟩
  replace hx : w1.cell? ad = some (.slice B0 (rw_ l0 0).length d0) := by rw [hw]; exact hx
  have HB := Lib.hid (show Below w.heap.size w w1 by rw [hw]; exact pw_below_drewN (Below.refl _ _) n)
  clear hw
  go_wp2_with fail
  refine (matrix_One.calls (l0.length : Int) O 0 _ HO.out).mono ?_
  rintro e' w2 ⟨v1, rfl, ho, hb⟩
  obtain ⟨g, cap, b, c, rfl, -, hM⟩ := Mat.of_S ho HOR.out (by rw [HOL.out]; exact HK.out.1) HK.out.1
  rw [HOL.out]
  have HM := Lib.hid ((Mat.size hM).mono (S' := fun k => w.heap.size ≤ k ∧ k < w2.heap.size) (fun k hk => ⟨Nat.le_trans HB.out.size hk.1, hk.2⟩))
  replace HB := Lib.hid (below_step HB.out hb)
  clear ho hb hM hx he1
  go_wp2_with fail
  refine (matrix_twin.calls (some ad) c0 l0 l0 _ (Kd.C_below HR.out HB.out) HC.out (by unfold matrix_twin.f; rw [if_pos HK.out])).mono ?_
  rintro e' w3 ⟨v2, rfl, ho, hb⟩
  obtain ⟨g2, cap2, b2, c2, rfl, -, hM2⟩ := Mat.of_S ho HK.out.2.2.2.2 HK.out.1 HK.out.2.2.1
  have HM2 := Lib.hid hM2
  replace HM := Lib.hid (HM.out.below hb)
  have HZ := Lib.hid HB.out.size
  replace HB := Lib.hid (below_step HB.out hb)
  clear ho hb hM2
  go_wp2_with fail
  have hC := matrix_solve.calls k _ _ g2 g cap2 cap _ _ b2 c2 b c l0 O M' B' r w _ HB.out HM2.out HM.out (fun k hk => ⟨Nat.le_trans HZ.out hk, fun z => by have := z.2; omega⟩) (fun k hk => ⟨hk.1, fun z => by have := hk.2; omega⟩) ⟨HK.out.1, HK.out.2.1, HOL.out, HK.out.2.2.1, HK.out.2.2.2.1, HK.out.1, HK.out.2.1⟩ HS.out
  rw [HOL.out] at hC
  refine hC.mono ?_
  clear hC
  rintro e' w4 ⟨rfl, ⟨b3, c3, b4, c4, -, hM4⟩, -, hl4, hb⟩
  have HM4 := Lib.hid (hM4.toS (base := w.heap.size) (fun _ hk => hk.1))
  rw [hl4] at HM4
  have HB4 := Lib.hid hb
  clear hb hM4 HM HM2 HS
  by_cases hlt : r < l0.length
  case pos =>
    have h := H.out
    rw [if_pos hlt] at h
    injection h with h; injection h with ha hb; subst ha hb
    have hd : decide ((r : Int) < (l0.length : Int)) = true := decide_eq_true (by omega)
    have hd2 : (r : Int) < (l0.length : Int) := by omega
    clear hlt H
    go_wp2_with fail
    go_ret2
    exact ⟨_, rfl, Kd.S_nil _ _ _ _ _, HB4.out⟩
  case neg =>
    have h := H.out
    rw [if_neg hlt] at h
    injection h with h; injection h with ha hb; subst ha hb
    have hd2 : ¬ (r : Int) < (l0.length : Int) := by omega
    clear hlt H
    go_wp2_with fail
    go_ret2
    exact ⟨_, rfl, HM4.out, HB4.out⟩

end Go.Proofs.Ytmeckhfoajfapaa.PT
