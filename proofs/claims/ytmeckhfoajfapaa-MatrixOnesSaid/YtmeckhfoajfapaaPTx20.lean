-- written by the session's own program (wip/prt.py) over the kit's print: not print.sh's own text
import Derived.Test.YtmeckhfoajfapaaPTx0
import Derived.Test.YtmeckhfoajfapaaPTx2
namespace Go.Proofs.Ytmeckhfoajfapaa.PT
open Go.RowKit Go.Proofs.YtmeckhfoajfapaaW.PrintWords Go.Proofs.YtmeckhfoajfapaaW.PrintLast Go.Proofs.YtmeckhfoajfapaaW.PrintMore
attribute [local go_sem] max2_int min2_int max_two min_two max_three min_three max_four min_four   -- for this text's walks alone
set_option linter.unusedVariables false
set_option linter.unusedSimpArgs false

/-! ### matrix_Turned: function 25 -/
def matrix_Turned.row (l0 : List (List Int)) (i : Int) : List Int := l0.getD i.toNat ([] : List Int)
def matrix_Turned.M (l0 : List (List Int)) : List (List Int) := (List.range (matrix_Turned.row l0 0).length).map (fun (i : Nat) => (List.range l0.length).map (fun (j : Nat) => rd (matrix_Turned.row l0 (j : Int)) (i : Int)))
def matrix_Turned.f (k : Nat) (l0 : List (List Int)) : Option (List (List Int) × Int) := (matrix_Check.f k l0).bind fun e => if e = 0 then (if 0 < l0.length ∧ l0.length ≤ 100 ∧ (matrix_Turned.row l0 0).length ≤ 100 ∧ ∀ a ∈ l0, a.length = (matrix_Turned.row l0 0).length then some (matrix_Turned.M l0, 0) else none) else some ([], e)
theorem matrix_Turned.mono : ∀ a0 k, LeO (matrix_Turned.f k a0) (matrix_Turned.f (k + 1) a0) := fun a0 k => LeO.bind (matrix_Check.mono _ _) (fun _ => LeO.refl _)
theorem matrix_Turned.at_ {w : World} {A : Option Addr} {n : Nat} {xs : List (List Int)} (h : Kd.C (Kd.slice 5 (Kd.int .u8)) w A n xs) (i : Int) (h0 : 0 ≤ i) (h1 : i < n) : ∃ ad A0 c0, A = some ad ∧ w.cell? (ad.add i.toNat) = some (.slice A0 (matrix_Turned.row xs i).length c0) ∧ (matrix_Turned.row xs i).length ≤ c0 ∧ Kd.C (Kd.int .u8) w A0 (matrix_Turned.row xs i).length (matrix_Turned.row xs i) := at_L1 h i h0 h1
theorem matrix_Turned.row_mem {l0 : List (List Int)} {j : Nat} (h : j < l0.length) : matrix_Turned.row l0 (j : Int) ∈ l0 := by unfold matrix_Turned.row; rw [Int.toNat_natCast, List.getD_eq_getElem?_getD, List.getElem?_eq_getElem h]; exact List.getElem_mem _
set_option maxHeartbeats 1000000 in
theorem matrix_Turned.lit (l0 : List (List Int)) (A0 : Option Addr) (c0 : Nat) (g : Nat) (i j : Nat) (W : World) (hg : W.cell? ⟨g, 0, none⟩ = some (.slice A0 l0.length c0)) (hr : Kd.C (Kd.slice 5 (Kd.int .u8)) W A0 l0.length l0) (hj : j < l0.length) (hi : i < (matrix_Turned.row l0 j).length) :
    Calls Try.prog 44 #[.int .i64 i, .int .i64 j, .pointer (some ⟨g, 0, none⟩)] W fun e w' => e = .returned (.int .u8 (rd (matrix_Turned.row l0 j) i)) ∧ Below W.heap.size W w' := by
  obtain ⟨ad, A1, c1, rfl, hx1, hc1, hr1⟩ := matrix_Turned.at_ hr (j : Int) (by omega) (by omega)
  obtain ⟨ad2, rfl, hx2⟩ := Kd.at_int hr1 (i : Int) (by omega) (by omega)
  simp only [Int.toNat_natCast] at hx1 hx2
  have hj1 : (j : Int) < (l0.length : Int) := by omega
  have hi1 : (i : Int) < ((matrix_Turned.row l0 j).length : Int) := by omega
  clear hr hr1
  go_enter Try.func44, Try.ntmps44
  go_wp2_with fail
  go_ret
  exact ⟨rfl, Below.refl _ _⟩
set_option maxHeartbeats 4000000 in
theorem matrix_Turned.calls (k : Nat) (A0 : Option Addr) (c0 : Nat) (l0 : List (List Int)) (r1 : List (List Int)) (r2 : Int) (w : World) (hr0 : Kd.C (Kd.slice 5 (Kd.int .u8)) w A0 l0.length l0) (hc0 : l0.length ≤ c0) (h : matrix_Turned.f k l0 = some (r1, r2)) :
    Calls Try.prog 25 #[.slice A0 l0.length c0] w fun e w' => ∃ v0_ : Value, e = .returned (.tuple #[v0_, .int .i64 r2]) ∧ Kd.S (Kd.slice 5 (Kd.int .u8)) 34 w' w.heap.size (fun _ => True) v0_ r1 ∧ Below w.heap.size w w' := by
  obtain ⟨e, he, h⟩ := Option.bind_eq_some_iff.mp h
  have HE := Lib.hid he
  have HR := Lib.hid hr0
  have HC := Lib.hid hc0
  have HB := Lib.hid (below_alloc (Below.refl w.heap.size w) (.cells #[.slice A0 l0.length c0] 23))
  have HG := Lib.hid (blk_new w (.cells #[.slice A0 l0.length c0] 23))
  clear he hr0 hc0
  by_cases h0 : e = 0
  · rw [if_pos h0] at h
    subst h0
    by_cases h1 : 0 < l0.length ∧ l0.length ≤ 100 ∧ (matrix_Turned.row l0 0).length ≤ 100 ∧ ∀ a ∈ l0, a.length = (matrix_Turned.row l0 0).length
    case neg => rw [if_neg h1] at h; cases h
    rw [if_pos h1] at h
    injection h with h; injection h with ha hb; subst hb
    obtain ⟨h1, h2, h3, h4⟩ := h1
    have HA := Lib.hid ha
    have HAll := Lib.hid h4
    clear ha h4 h
    go_enter Try.func25, Try.ntmps25
    go_wp2_with fail
    refine (matrix_Check.calls k A0 c0 l0 0 _ (Kd.C_below HR.out HB.out) HC.out HE.out).mono ?_
    rintro e w' ⟨rfl, ⟨nd, rfl⟩⟩
    replace HB := Lib.hid (pw_below_drewN HB.out nd)
    replace HG := Lib.hid (blk_drewN HG.out nd)
    generalize (w.alloc (.cells #[.slice A0 l0.length c0] 23)).drewN nd = w1 at HB HG ⊢
    have hx0 : w1.cell? ⟨w.heap.size, 0, none⟩ = some (.slice A0 l0.length c0) := (blk_cell HG.out 0).trans rfl
    obtain ⟨ad, A1, c1, rfl, hx1, hc1, hr1⟩ := matrix_Turned.at_ (Kd.C_below HR.out HB.out) 0 (by omega) (by omega)
    have ea : ad.add (Int.toNat 0) = ad := by cases ad; simp [Addr.add]
    rw [ea] at hx1
    have hp : (0 : Int) < (l0.length : Int) := by omega
    clear hr1 ea
    go_wp2_with fail
    have hX := made_Turned (matrix_Turned.row l0 0).length l0.length (fun i j => rd (matrix_Turned.row l0 (j : Int)) (i : Int)) w1.drew h3 h2 ⟨w.heap.size, 0, none⟩ (fun i j W hi hj hb => matrix_Turned.lit l0 (some ad) c0 w.heap.size i j W ((hb.cell (p := ⟨w.heap.size, 0, none⟩) (by exact blk_lt HG.out)).trans hx0) (Kd.C_below HR.out (below_step (below_drew HB.out) hb)) hj (by rw [HAll.out (matrix_Turned.row l0 (j : Int)) (matrix_Turned.row_mem hj)]; exact hi))
    have HX := Lib.hid hX
    clear hX
    go_still_tail 7, (by kernel_rfl)
    change wpList _ _ _ _ _ w1.drew
    clear hx0 hx1
    go_wp2_with fail
    refine HX.out.mono ?_
    rintro e w' ⟨b, rfl, hr, hb⟩
    have HRW := Lib.hid hr
    have HB2 := Lib.hid (below_step (below_drew HB.out) hb)
    clear hr hb
    go_wp2_with fail
    go_ret2
    refine ⟨_, rfl, ?_, HB2.out⟩
    rw [← HA.out]
    exact HRW.out.S (below_drew HB.out).size (by omega) (by omega)
  · rw [if_neg h0] at h
    injection h with h; injection h with ha hb; subst ha hb
    have he1 : (e != 0) = true := bne_iff_ne.mpr h0
    clear h0
    go_enter Try.func25, Try.ntmps25
    go_wp2_with fail
    refine (matrix_Check.calls k A0 c0 l0 e _ (Kd.C_below HR.out HB.out) HC.out HE.out).mono ?_
    rintro e w' ⟨rfl, ⟨nd, rfl⟩⟩
    go_wp2_with fail
    go_ret2
    exact ⟨_, rfl, Kd.S_nil _ _ _ _ _, pw_below_drewN HB.out nd⟩

end Go.Proofs.Ytmeckhfoajfapaa.PT
