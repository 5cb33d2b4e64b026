-- written by the session's own program (wip/prt.py) over the kit's print: not print.sh's own text
import Derived.Test.YtmeckhfoajfapaaPTx0
import Derived.Test.YtmeckhfoajfapaaPTx1
import Derived.Test.YtmeckhfoajfapaaPTx2
namespace Go.Proofs.Ytmeckhfoajfapaa.PT
open Go.RowKit Go.Proofs.YtmeckhfoajfapaaW.PrintWords Go.Proofs.YtmeckhfoajfapaaW.PrintLast Go.Proofs.YtmeckhfoajfapaaW.PrintMore
attribute [local go_sem] max2_int min2_int max_two min_two max_three min_three max_four min_four   -- for this text's walks alone
set_option linter.unusedVariables false
set_option linter.unusedSimpArgs false

/-! ### matrix_Mul: function 19 -/
def matrix_Mul.row (l0 : List (List Int)) (i : Int) : List Int := l0.getD i.toNat ([] : List Int)
def matrix_Mul.acc (k : Nat) (ra : List Int) (l1 : List (List Int)) (j : Nat) : Nat → Nat → Int → Option Int
  | 0, _, x => some x
  | d + 1, n, x => (gf_Mul.f k (rd ra (n : Int)) (rd (matrix_Mul.row l1 (n : Int)) (j : Int))).bind fun p => matrix_Mul.acc k ra l1 j d (n + 1) (Go.bits .xor .u8 x p)
def matrix_Mul.o (k : Nat) (l0 l1 : List (List Int)) (i j : Nat) : Option Int := matrix_Mul.acc k (matrix_Mul.row l0 (i : Int)) l1 j l1.length 0 0
def matrix_Mul.G (k : Nat) (l0 l1 : List (List Int)) (i j : Nat) : Int := (matrix_Mul.o k l0 l1 i j).getD 0
def matrix_Mul.M (k : Nat) (l0 l1 : List (List Int)) : List (List Int) := (List.range l0.length).map (fun (i : Nat) => (List.range (matrix_Mul.row l1 0).length).map (fun (j : Nat) => matrix_Mul.G k l0 l1 i j))
def matrix_Mul.ok (l0 l1 : List (List Int)) : Prop := 0 < l0.length ∧ l0.length ≤ 100 ∧ 0 < l1.length ∧ l1.length ≤ 100 ∧ (matrix_Mul.row l1 0).length ≤ 100 ∧ (∀ a ∈ l0, a.length = (matrix_Mul.row l0 0).length) ∧ (∀ a ∈ l1, a.length = (matrix_Mul.row l1 0).length)
instance matrix_Mul.dec1 (l0 l1 : List (List Int)) : Decidable (matrix_Mul.ok l0 l1) := by unfold matrix_Mul.ok; infer_instance
def matrix_Mul.all (k : Nat) (l0 l1 : List (List Int)) : Prop := ∀ i, i < l0.length → ∀ j, j < (matrix_Mul.row l1 0).length → (matrix_Mul.o k l0 l1 i j).isSome = true
instance matrix_Mul.dec2 (k : Nat) (l0 l1 : List (List Int)) : Decidable (matrix_Mul.all k l0 l1) := by unfold matrix_Mul.all; infer_instance
def matrix_Mul.f (k : Nat) (l0 l1 : List (List Int)) : Option (List (List Int) × Int) := (matrix_Check.f k l0).bind fun e => if e = 0 then ((matrix_Check.f k l1).bind fun e2 => if e2 = 0 then (if matrix_Mul.ok l0 l1 then (if (matrix_Mul.row l0 0).length = l1.length then (if matrix_Mul.all k l0 l1 then some (matrix_Mul.M k l0 l1, 0) else none) else some ([], 30)) else none) else some ([], 30)) else some ([], 30)
theorem matrix_Mul.acc_mono (k : Nat) (ra : List Int) (l1 : List (List Int)) (j : Nat) : ∀ d n x, LeO (matrix_Mul.acc k ra l1 j d n x) (matrix_Mul.acc (k + 1) ra l1 j d n x)
  | 0, _, _ => LeO.refl _
  | d + 1, n, x => LeO.bind (gf_Mul.mono _ _ _) (fun _ => matrix_Mul.acc_mono k ra l1 j d (n + 1) _)
theorem matrix_Mul.o_up {k : Nat} {l0 l1 : List (List Int)} {i j : Nat} (h : (matrix_Mul.o k l0 l1 i j).isSome = true) : matrix_Mul.o (k + 1) l0 l1 i j = matrix_Mul.o k l0 l1 i j := by
  obtain ⟨x, hx⟩ := Option.isSome_iff_exists.1 h
  rw [hx]
  exact matrix_Mul.acc_mono _ _ _ _ _ _ _ _ hx
theorem matrix_Mul.mono : ∀ a0 a1 k, LeO (matrix_Mul.f k a0 a1) (matrix_Mul.f (k + 1) a0 a1) := fun a0 a1 k => LeO.bind (matrix_Check.mono _ _) (fun e => LeO.ite (LeO.bind (matrix_Check.mono _ _) (fun e2 => LeO.ite (LeO.ite (LeO.ite (fun r hr => by
  by_cases h : matrix_Mul.all k a0 a1
  case neg => rw [if_neg h] at hr; cases hr
  rw [if_pos h] at hr
  have h' : matrix_Mul.all (k + 1) a0 a1 := fun i hi j hj => by rw [matrix_Mul.o_up (h i hi j hj)]; exact h i hi j hj
  rw [if_pos h', ← hr]
  have e : matrix_Mul.M (k + 1) a0 a1 = matrix_Mul.M k a0 a1 := by
    unfold matrix_Mul.M
    refine List.map_congr_left (fun i hi => List.map_congr_left (fun j hj => ?_))
    unfold matrix_Mul.G
    rw [matrix_Mul.o_up (h i (List.mem_range.1 hi) j (List.mem_range.1 hj))]
  rw [e]) (LeO.refl _)) (LeO.refl _)) (LeO.refl _))) (LeO.refl _))
theorem matrix_Mul.row_mem {l0 : List (List Int)} {j : Int} (h0 : 0 ≤ j) (h : j < l0.length) : matrix_Mul.row l0 j ∈ l0 := by unfold matrix_Mul.row; rw [List.getD_eq_getElem?_getD, List.getElem?_eq_getElem (by omega)]; exact List.getElem_mem _
theorem matrix_Mul.at_ {w : World} {A : Option Addr} {n : Nat} {xs : List (List Int)} (h : Kd.C (Kd.slice 5 (Kd.int .u8)) w A n xs) (i : Int) (h0 : 0 ≤ i) (h1 : i < n) : ∃ ad A0 c0, A = some ad ∧ w.cell? (ad.add i.toNat) = some (.slice A0 (matrix_Mul.row xs i).length c0) ∧ (matrix_Mul.row xs i).length ≤ c0 ∧ Kd.C (Kd.int .u8) w A0 (matrix_Mul.row xs i).length (matrix_Mul.row xs i) := at_L1 h i h0 h1
set_option maxHeartbeats 4000000 in
theorem matrix_Mul.lit (k : Nat) (l0 l1 : List (List Int)) (A0 : Option Addr) (c0 : Nat) (A1 : Option Addr) (c1 : Nat) (g g2 : Nat) (i j : Nat) (W : World) (hg : W.cell? ⟨g, 0, none⟩ = some (.slice A0 l0.length c0)) (hg2 : W.cell? ⟨g2, 0, none⟩ = some (.slice A1 l1.length c1)) (hr : Kd.C (Kd.slice 5 (Kd.int .u8)) W A0 l0.length l0) (hr2 : Kd.C (Kd.slice 5 (Kd.int .u8)) W A1 l1.length l1) (hi : i < l0.length) (hw : (matrix_Mul.row l0 (i : Int)).length = l1.length) (hl : l1.length ≤ 100) (hj : ∀ n : Nat, n < l1.length → j < (matrix_Mul.row l1 (n : Int)).length) (hs : (matrix_Mul.o k l0 l1 i j).isSome = true) :
    Calls Try.prog 40 #[.int .i64 i, .int .i64 j, .pointer (some ⟨g2, 0, none⟩), .pointer (some ⟨g, 0, none⟩)] W fun e w' => e = .returned (.int .u8 (matrix_Mul.G k l0 l1 i j)) ∧ Below W.heap.size W w' := by
  obtain ⟨r, hx⟩ := Option.isSome_iff_exists.1 hs
  have HG := Lib.hid (show matrix_Mul.G k l0 l1 i j = r by unfold matrix_Mul.G; rw [hx]; rfl)
  have HO := Lib.hid (show matrix_Mul.acc k (matrix_Mul.row l0 (i : Int)) l1 j l1.length 0 0 = some r from hx)
  have HL := Lib.hid hl
  have HW := Lib.hid hw
  have HJ := Lib.hid hj
  have HR2 := Lib.hid hr2
  obtain ⟨ad0, B0, d0, rfl, hx0, hd0, hb0⟩ := matrix_Mul.at_ hr (i : Int) (by omega) (by omega)
  have HB0 := Lib.hid hb0
  simp only [Int.toNat_natCast] at hx0
  have hi1 : (i : Int) < (l0.length : Int) := by omega
  clear hs hx hl hw hj hr hr2 hb0
  go_enter Try.func40, Try.ntmps40
  go_wp2_with fail
  go_loopg [7, 8, 11] l1.length (fun g s7 s8 s11 wx => ∃ (n : Nat) (x : Int), n + g = l1.length ∧ s7 = .int .u8 x ∧ s11 = .int .i64 n ∧ Drawn0 W wx ∧ Aside0 (matrix_Mul.acc k (matrix_Mul.row l0 (i : Int)) l1 j g n x = some r))
  case atStart => exact ⟨0, 0, by omega, rfl, rfl, Drawn0.refl _, ⟨HO.out⟩⟩
  case round =>
    obtain ⟨n, x, hng, rfl, rfl, ⟨m, rfl⟩, HI⟩ := hrel
    cases gk with
    | zero =>
      obtain rfl : n = l1.length := by omega
      go_wp2_with fail
      go_ret
      have h := HI.out
      injection h with h
      subst h
      exact ⟨by rw [HG.out]; rfl, pw_below_drewN (Below.refl _ _) m⟩
    | succ d =>
      have hn : n < l1.length := by omega
      obtain ⟨ad1, B1, d1, e1, hx1, hd1, hb1⟩ := matrix_Mul.at_ HR2.out (n : Int) (by omega) (by omega)
      cases e1
      obtain ⟨ad2, e2, hx2⟩ := Kd.at_int HB0.out (n : Int) (by omega) (by rw [HW.out]; omega)
      cases e2
      obtain ⟨ad3, e3, hx3⟩ := Kd.at_int hb1 (j : Int) (by omega) (by have := HJ.out n hn; omega)
      cases e3
      simp only [Int.toNat_natCast] at hx1 hx2 hx3
      have hj1 : (j : Int) < ((matrix_Mul.row l1 (n : Int)).length : Int) := by have := HJ.out n hn; omega
      have hn1 : (n : Int) < ((matrix_Mul.row l0 (i : Int)).length : Int) := by rw [HW.out]; omega
      have hn2 : (n : Int) < (l1.length : Int) := by omega
      clear hb1
      have h := HI.out
      obtain ⟨p, hp, h⟩ := Option.bind_eq_some_iff.mp h
      have HP := Lib.hid hp
      have HN := Lib.hid h
      clear hp h HI
      go_wp2_with fail
      go_quiet (first | (go_at_call 32; refine (gf_Mul.calls k _ _ p _ HP.out).mono (fun e w' h7 => ⟨h7.1, by obtain ⟨q, hq⟩ := h7.2; exact ⟨_, by rw [hq, World.drewN_drewN, Nat.add_assoc]⟩⟩)) | (go_at_call 31; refine (gf_Add.calls x p (Go.bits .xor .u8 x p) _ rfl).mono (fun e w' h7 => ⟨h7.1, by obtain ⟨q, hq⟩ := h7.2; exact ⟨_, by rw [hq, World.drewN_drewN, Nat.add_assoc]⟩⟩)))
      go_wp2_with fail
      go_roundg d
      case measure => omega
      case rel => exact ⟨n + 1, _, by omega, rfl, by have h7 := HL.out; rw [show wrap64 ((n : Int) + 1) = ((n + 1 : Nat) : Int) by unfold wrap64; omega], by repeat (first | exact Drawn0.refl _ | apply Drawn0.step), ⟨HN.out⟩⟩
set_option maxHeartbeats 4000000 in
theorem matrix_Mul.calls (k : Nat) (A0 : Option Addr) (c0 : Nat) (l0 : List (List Int)) (A1 : Option Addr) (c1 : Nat) (l1 : List (List Int)) (r1 : List (List Int)) (r2 : Int) (w : World) (hr0 : Kd.C (Kd.slice 5 (Kd.int .u8)) w A0 l0.length l0) (hc0 : l0.length ≤ c0) (hr1 : Kd.C (Kd.slice 5 (Kd.int .u8)) w A1 l1.length l1) (hc1 : l1.length ≤ c1) (h : matrix_Mul.f k l0 l1 = some (r1, r2)) :
    Calls Try.prog 19 #[.slice A0 l0.length c0, .slice A1 l1.length c1] w fun e w' => ∃ v0_ : Value, e = .returned (.tuple #[v0_, .int .i64 r2]) ∧ Kd.S (Kd.slice 5 (Kd.int .u8)) 34 w' w.heap.size (fun _ => True) v0_ r1 ∧ Below w.heap.size w w' := by
  obtain ⟨e, he, h⟩ := Option.bind_eq_some_iff.mp h
  have HE := Lib.hid he
  have HR := Lib.hid hr0
  have HC := Lib.hid hc0
  have HR1 := Lib.hid hr1
  have HC1 := Lib.hid hc1
  have HB := Lib.hid (below_alloc (below_alloc (Below.refl w.heap.size w) (.cells #[.slice A0 l0.length c0] 23)) (.cells #[.slice A1 l1.length c1] 23))
  have HG := Lib.hid (blk_alloc (blk_new w (.cells #[.slice A0 l0.length c0] 23)) (.cells #[.slice A1 l1.length c1] 23))
  have hg1 := blk_new (w.alloc (.cells #[.slice A0 l0.length c0] 23)) (.cells #[.slice A1 l1.length c1] 23)
  rw [show (w.alloc (.cells #[.slice A0 l0.length c0] 23)).heap.size = w.heap.size + 1 from Array.size_push _] at hg1
  have HG1 := Lib.hid hg1
  clear he hr0 hc0 hr1 hc1 hg1
  by_cases h0 : e = 0
  case neg =>
    rw [if_neg h0] at h
    injection h with h; injection h with ha hb; subst ha hb
    have he1 : (e != 0) = true := bne_iff_ne.mpr h0
    clear h0
    go_enter Try.func19, Try.ntmps19
    go_wp2_with fail
    generalize (w.alloc (.cells #[.slice A0 l0.length c0] 23)).alloc (.cells #[.slice A1 l1.length c1] 23) = w1 at HB HG HG1 ⊢
    generalize w.heap.size + 1 = g2 at HG1 ⊢
    have hx0 : w1.cell? ⟨w.heap.size, 0, none⟩ = some (.slice A0 l0.length c0) := (blk_cell HG.out 0).trans rfl
    have hx1 : w1.cell? ⟨g2, 0, none⟩ = some (.slice A1 l1.length c1) := (blk_cell HG1.out 0).trans rfl
    have HQ0 : Hid (∀ n : Nat, Calls Try.prog 13 #[.slice A0 l0.length c0] (w1.drewN n) fun e' w'' => e' = .returned (.int .i64 e) ∧ ∃ m, w'' = w1.drewN m) := Lib.hid (fun n => (matrix_Check.calls k A0 c0 l0 e _ (Kd.C_below HR.out (pw_below_drewN HB.out n)) HC.out HE.out).mono (fun e w' h7 => ⟨h7.1, by obtain ⟨q, hq⟩ := h7.2; exact ⟨_, by rw [hq, World.drewN_drewN]⟩⟩))
    go_quiet (exact HQ0.out _)
    go_wp2_with fail
    go_ret2
    exact ⟨_, rfl, Kd.S_nil _ _ _ _ _, pw_below_drewN HB.out nq⟩
  rw [if_pos h0] at h
  subst h0
  obtain ⟨e2, he2, h⟩ := Option.bind_eq_some_iff.mp h
  have HE2 := Lib.hid he2
  clear he2
  by_cases h0 : e2 = 0
  case neg =>
    rw [if_neg h0] at h
    injection h with h; injection h with ha hb; subst ha hb
    have he1 : (e2 != 0) = true := bne_iff_ne.mpr h0
    clear h0
    go_enter Try.func19, Try.ntmps19
    go_wp2_with fail
    generalize (w.alloc (.cells #[.slice A0 l0.length c0] 23)).alloc (.cells #[.slice A1 l1.length c1] 23) = w1 at HB HG HG1 ⊢
    generalize w.heap.size + 1 = g2 at HG1 ⊢
    have hx0 : w1.cell? ⟨w.heap.size, 0, none⟩ = some (.slice A0 l0.length c0) := (blk_cell HG.out 0).trans rfl
    have hx1 : w1.cell? ⟨g2, 0, none⟩ = some (.slice A1 l1.length c1) := (blk_cell HG1.out 0).trans rfl
    have HQ0 : Hid (∀ n : Nat, Calls Try.prog 13 #[.slice A0 l0.length c0] (w1.drewN n) fun e' w'' => e' = .returned (.int .i64 0) ∧ ∃ m, w'' = w1.drewN m) := Lib.hid (fun n => (matrix_Check.calls k A0 c0 l0 0 _ (Kd.C_below HR.out (pw_below_drewN HB.out n)) HC.out HE.out).mono (fun e w' h7 => ⟨h7.1, by obtain ⟨q, hq⟩ := h7.2; exact ⟨_, by rw [hq, World.drewN_drewN]⟩⟩))
    have HQ1 : Hid (∀ n : Nat, Calls Try.prog 13 #[.slice A1 l1.length c1] (w1.drewN n) fun e' w'' => e' = .returned (.int .i64 e2) ∧ ∃ m, w'' = w1.drewN m) := Lib.hid (fun n => (matrix_Check.calls k A1 c1 l1 e2 _ (Kd.C_below HR1.out (pw_below_drewN HB.out n)) HC1.out HE2.out).mono (fun e w' h7 => ⟨h7.1, by obtain ⟨q, hq⟩ := h7.2; exact ⟨_, by rw [hq, World.drewN_drewN]⟩⟩))
    go_quiet (first | (with_reducible exact HQ0.out _) | (with_reducible exact HQ1.out _))
    go_wp2_with fail
    go_ret2
    exact ⟨_, rfl, Kd.S_nil _ _ _ _ _, pw_below_drewN HB.out nq⟩
  rw [if_pos h0] at h
  subst h0
  by_cases hok : matrix_Mul.ok l0 l1
  case neg => rw [if_neg hok] at h; cases h
  rw [if_pos hok] at h
  obtain ⟨o1, o2, o3, o4, o5, o6, o7⟩ := hok
  have O2 := Lib.hid o2
  have O4 := Lib.hid o4
  have O5 := Lib.hid o5
  have O6 := Lib.hid o6
  have O7 := Lib.hid o7
  obtain ⟨ad, B0, d0, rfl, hx2, hd0, hb0⟩ := matrix_Mul.at_ (Kd.C_below HR.out HB.out) 0 (by omega) (by omega)
  obtain ⟨ad', B1, d1, rfl, hx3, hd1, hb1⟩ := matrix_Mul.at_ (Kd.C_below HR1.out HB.out) 0 (by omega) (by omega)
  have ea : ad.add (Int.toNat 0) = ad := by cases ad; simp [Addr.add]
  have eb : ad'.add (Int.toNat 0) = ad' := by cases ad'; simp [Addr.add]
  rw [ea] at hx2
  rw [eb] at hx3
  have hp : (0 : Int) < (l0.length : Int) := by omega
  have hp1 : (0 : Int) < (l1.length : Int) := by omega
  clear ea eb hb0 hb1 o2 o4 o5 o6 o7
  by_cases h1 : (matrix_Mul.row l0 0).length = l1.length
  case neg =>
    rw [if_neg h1] at h
    injection h with h; injection h with ha hb; subst ha hb
    have he1 : (((matrix_Mul.row l0 0).length : Int) != (l1.length : Int)) = true := bne_iff_ne.mpr (by omega)
    clear h1
    go_enter Try.func19, Try.ntmps19
    go_wp2_with fail
    generalize (w.alloc (.cells #[.slice (some ad) l0.length c0] 23)).alloc (.cells #[.slice (some ad') l1.length c1] 23) = w1 at HB HG HG1 hx2 hx3 ⊢
    generalize w.heap.size + 1 = g2 at HG1 ⊢
    have hx0 : w1.cell? ⟨w.heap.size, 0, none⟩ = some (.slice (some ad) l0.length c0) := (blk_cell HG.out 0).trans rfl
    have hx1 : w1.cell? ⟨g2, 0, none⟩ = some (.slice (some ad') l1.length c1) := (blk_cell HG1.out 0).trans rfl
    have HQ0 : Hid (∀ n : Nat, Calls Try.prog 13 #[.slice (some ad) l0.length c0] (w1.drewN n) fun e' w'' => e' = .returned (.int .i64 0) ∧ ∃ m, w'' = w1.drewN m) := Lib.hid (fun n => (matrix_Check.calls k (some ad) c0 l0 0 _ (Kd.C_below HR.out (pw_below_drewN HB.out n)) HC.out HE.out).mono (fun e w' h7 => ⟨h7.1, by obtain ⟨q, hq⟩ := h7.2; exact ⟨_, by rw [hq, World.drewN_drewN]⟩⟩))
    have HQ1 : Hid (∀ n : Nat, Calls Try.prog 13 #[.slice (some ad') l1.length c1] (w1.drewN n) fun e' w'' => e' = .returned (.int .i64 0) ∧ ∃ m, w'' = w1.drewN m) := Lib.hid (fun n => (matrix_Check.calls k (some ad') c1 l1 0 _ (Kd.C_below HR1.out (pw_below_drewN HB.out n)) HC1.out HE2.out).mono (fun e w' h7 => ⟨h7.1, by obtain ⟨q, hq⟩ := h7.2; exact ⟨_, by rw [hq, World.drewN_drewN]⟩⟩))
    go_quiet (first | (with_reducible exact HQ0.out _) | (with_reducible exact HQ1.out _))
    go_wp2_with fail
    go_ret2
    exact ⟨_, rfl, Kd.S_nil _ _ _ _ _, pw_below_drewN HB.out nq⟩
  rw [if_pos h1] at h
  have he1 : (((matrix_Mul.row l0 0).length : Int) != (l1.length : Int)) = false := bne_eq_false_iff_eq.mpr (by omega)
  have HW := Lib.hid h1
  by_cases hall : matrix_Mul.all k l0 l1
  case neg => rw [if_neg hall] at h; cases h
  rw [if_pos hall] at h
  injection h with h; injection h with ha hb; subst hb
  have HA := Lib.hid ha
  have HAll := Lib.hid hall
  clear ha hall h h1
  go_enter Try.func19, Try.ntmps19
  go_wp2_with fail
  generalize (w.alloc (.cells #[.slice (some ad) l0.length c0] 23)).alloc (.cells #[.slice (some ad') l1.length c1] 23) = w1 at HB HG HG1 hx2 hx3 ⊢
  generalize w.heap.size + 1 = g2 at HG1 ⊢
  have hx0 : w1.cell? ⟨w.heap.size, 0, none⟩ = some (.slice (some ad) l0.length c0) := (blk_cell HG.out 0).trans rfl
  have hx1 : w1.cell? ⟨g2, 0, none⟩ = some (.slice (some ad') l1.length c1) := (blk_cell HG1.out 0).trans rfl
  have HQ0 : Hid (∀ n : Nat, Calls Try.prog 13 #[.slice (some ad) l0.length c0] (w1.drewN n) fun e' w'' => e' = .returned (.int .i64 0) ∧ ∃ m, w'' = w1.drewN m) := Lib.hid (fun n => (matrix_Check.calls k (some ad) c0 l0 0 _ (Kd.C_below HR.out (pw_below_drewN HB.out n)) HC.out HE.out).mono (fun e w' h7 => ⟨h7.1, by obtain ⟨q, hq⟩ := h7.2; exact ⟨_, by rw [hq, World.drewN_drewN]⟩⟩))
  have HQ1 : Hid (∀ n : Nat, Calls Try.prog 13 #[.slice (some ad') l1.length c1] (w1.drewN n) fun e' w'' => e' = .returned (.int .i64 0) ∧ ∃ m, w'' = w1.drewN m) := Lib.hid (fun n => (matrix_Check.calls k (some ad') c1 l1 0 _ (Kd.C_below HR1.out (pw_below_drewN HB.out n)) HC1.out HE2.out).mono (fun e w' h7 => ⟨h7.1, by obtain ⟨q, hq⟩ := h7.2; exact ⟨_, by rw [hq, World.drewN_drewN]⟩⟩))
  go_quiet (first | (with_reducible exact HQ0.out _) | (with_reducible exact HQ1.out _))
  replace HB := Lib.hid (pw_below_drewN HB.out nq)
  replace HG := Lib.hid (blk_drewN HG.out nq)
  replace HG1 := Lib.hid (blk_drewN HG1.out nq)
  replace hx0 : (w1.drewN nq).cell? ⟨w.heap.size, 0, none⟩ = some (.slice (some ad) l0.length c0) := hx0
  replace hx1 : (w1.drewN nq).cell? ⟨g2, 0, none⟩ = some (.slice (some ad') l1.length c1) := hx1
  replace hx2 : (w1.drewN nq).cell? ad = some (.slice B0 (matrix_Mul.row l0 0).length d0) := hx2
  replace hx3 : (w1.drewN nq).cell? ad' = some (.slice B1 (matrix_Mul.row l1 0).length d1) := hx3
  clear HQ0 HQ1
  generalize w1.drewN nq = w2 at HB HG HG1 hx0 hx1 hx2 hx3 ⊢
  go_wp2_with fail
  have hX := made_Mul l0.length (matrix_Mul.row l1 0).length (fun i j => matrix_Mul.G k l0 l1 i j) w2.drew O2.out O5.out ⟨g2, 0, none⟩ ⟨w.heap.size, 0, none⟩ (fun i j W hi hj hb => matrix_Mul.lit k l0 l1 (some ad) c0 (some ad') c1 w.heap.size g2 i j W ((hb.cell (p := ⟨w.heap.size, 0, none⟩) (by exact blk_lt HG.out)).trans hx0) ((hb.cell (p := ⟨g2, 0, none⟩) (by exact blk_lt HG1.out)).trans hx1) (Kd.C_below HR.out (below_step (below_drew HB.out) hb)) (Kd.C_below HR1.out (below_step (below_drew HB.out) hb)) hi (by rw [O6.out _ (matrix_Mul.row_mem (by omega) (by omega)), HW.out]) O4.out (fun n hn => by rw [O7.out _ (matrix_Mul.row_mem (by omega) (by omega))]; exact hj) (HAll.out i hi j hj))
  have HX := Lib.hid hX
  clear hX
  go_still_tail 7, (by kernel_rfl)
  change wpList _ _ _ _ _ w2.drew
  clear hx0 hx1 hx2 hx3 he1
  go_wp2_with fail
  refine HX.out.mono ?_
  rintro e w' ⟨b, rfl, hr, hb⟩
  have HRW := Lib.hid hr
  have HB2 := Lib.hid (below_step (below_drew HB.out) hb)
  clear hr hb
  go_wp2_with fail
  go_ret2
  refine ⟨_, rfl, ?_, HB2.out⟩
  rw [← HA.out]
  exact HRW.out.S (below_drew HB.out).size (by have := O2.out; omega) (by have := O5.out; omega)

/-! ### matrix_Cauchy: function 11 -/
def matrix_Cauchy.at_ (k : Int) (i j : Nat) : Int := Go.bits .xor .u8 (k + i) (j : Int)
def matrix_Cauchy.G (k : Int) (i j : Nat) : Int := ((gf_Inv.f (matrix_Cauchy.at_ k i j)).getD (0, 0)).1
def matrix_Cauchy.M (k r : Nat) : List (List Int) := (List.range r).map (fun (i : Nat) => (List.range k).map (fun (j : Nat) => matrix_Cauchy.G k i j))
def matrix_Cauchy.f (a0 a1 : Int) : Option (List (List Int) × Int) := if a0 < 1 then some ([], 2) else if a0 > 12 then some ([], 2) else if a1 < 1 then some ([], 2) else if a1 > 4 then some ([], 2) else if ∀ i, i < a1.toNat → ∀ j, j < a0.toNat → (gf_Inv.f (matrix_Cauchy.at_ a0 i j)).isSome = true then some (matrix_Cauchy.M a0.toNat a1.toNat, 0) else none
set_option maxHeartbeats 1000000 in
theorem matrix_Cauchy.lit (k : Int) (hk0 : 1 ≤ k) (hk1 : k ≤ 12) (g : Nat) (i j : Nat) (hi : i < 100) (hj : j < 100) (W : World) (hg : W.cell? ⟨g, 0, none⟩ = some (.int .i64 k)) (hs : (gf_Inv.f (matrix_Cauchy.at_ k i j)).isSome = true) :
    Calls Try.prog 35 #[.int .i64 i, .int .i64 j, .pointer (some ⟨g, 0, none⟩)] W fun e w' => e = .returned (.int .u8 (matrix_Cauchy.G k i j)) ∧ Below W.heap.size W w' := by
  obtain ⟨⟨x, y⟩, hx⟩ := Option.isSome_iff_exists.1 hs
  have HX := Lib.hid hx
  have HG := Lib.hid (show matrix_Cauchy.G k i j = x by unfold matrix_Cauchy.G; rw [hx]; rfl)
  have ha : gf_Add.f (k + i) (j : Int) = some (matrix_Cauchy.at_ k i j) := rfl
  have HA := Lib.hid ha
  have e2 : (j : Int) < 256 := by omega
  clear hs hx ha
  go_enter Try.func35, Try.ntmps35
  go_wp2_with fail
  refine (gf_Add.calls (k + i) (j : Int) (matrix_Cauchy.at_ k i j) _ HA.out).mono ?_
  rintro e w' ⟨rfl, ⟨nd, rfl⟩⟩
  go_wp2_with fail
  refine (gf_Inv.calls (matrix_Cauchy.at_ k i j) x y _ HX.out).mono ?_
  rintro e w' ⟨rfl, hb⟩
  have HB := Lib.hid (below_step (pw_below_drewN (Below.refl W.heap.size W) nd) hb)
  clear hb hg
  go_wp2_with fail
  go_ret
  exact ⟨by rw [HG.out]; rfl, HB.out⟩
set_option maxHeartbeats 4000000 in
theorem matrix_Cauchy.calls (a0 a1 : Int) (r1 : List (List Int)) (r2 : Int) (w : World) (h : matrix_Cauchy.f a0 a1 = some (r1, r2)) :
    Calls Try.prog 11 #[.int .i64 a0, .int .i64 a1] w fun e w' => ∃ v0_ : Value, e = .returned (.tuple #[v0_, .int .i64 r2]) ∧ Kd.S (Kd.slice 5 (Kd.int .u8)) 34 w' w.heap.size (fun _ => True) v0_ r1 ∧ Below w.heap.size w w' := by
  unfold matrix_Cauchy.f at h
  by_cases h1 : a0 < 1
  · rw [if_pos h1] at h
    injection h with h; injection h with ha hb; subst ha hb
    go_enter Try.func11, Try.ntmps11
    go_wp2_with fail
    go_ret2
    exact ⟨_, rfl, Kd.S_nil _ _ _ _ _, below_alloc (Below.refl _ _) _⟩
  rw [if_neg h1] at h
  by_cases h2 : a0 > 12
  · rw [if_pos h2] at h
    injection h with h; injection h with ha hb; subst ha hb
    have d1 : decide (a0 < 1) = false := decide_eq_false h1
    go_enter Try.func11, Try.ntmps11
    go_wp2_with fail
    go_ret2
    exact ⟨_, rfl, Kd.S_nil _ _ _ _ _, below_alloc (Below.refl _ _) _⟩
  rw [if_neg h2] at h
  by_cases h3 : a1 < 1
  · rw [if_pos h3] at h
    injection h with h; injection h with ha hb; subst ha hb
    have d1 : decide (a0 < 1) = false := decide_eq_false h1
    have d2 : decide (a0 > 12) = false := decide_eq_false h2
    go_enter Try.func11, Try.ntmps11
    go_wp2_with fail
    go_ret2
    exact ⟨_, rfl, Kd.S_nil _ _ _ _ _, below_alloc (Below.refl _ _) _⟩
  rw [if_neg h3] at h
  by_cases h4 : a1 > 4
  · rw [if_pos h4] at h
    injection h with h; injection h with ha hb; subst ha hb
    have d1 : decide (a0 < 1) = false := decide_eq_false h1
    have d2 : decide (a0 > 12) = false := decide_eq_false h2
    have d3 : decide (a1 < 1) = false := decide_eq_false h3
    go_enter Try.func11, Try.ntmps11
    go_wp2_with fail
    go_ret2
    exact ⟨_, rfl, Kd.S_nil _ _ _ _ _, below_alloc (Below.refl _ _) _⟩
  rw [if_neg h4] at h
  by_cases h5 : ∀ i, i < a1.toNat → ∀ j, j < a0.toNat → (gf_Inv.f (matrix_Cauchy.at_ a0 i j)).isSome = true
  case neg => rw [if_neg h5] at h; cases h
  rw [if_pos h5] at h
  injection h with h; injection h with ha hb; subst hb
  obtain ⟨k, rfl⟩ := Int.eq_ofNat_of_zero_le (show 0 ≤ a0 by omega)
  obtain ⟨r, rfl⟩ := Int.eq_ofNat_of_zero_le (show 0 ≤ a1 by omega)
  simp only [Int.toNat_natCast] at ha h5
  have HA := Lib.hid ha
  have HB := Lib.hid (below_alloc (Below.refl w.heap.size w) (.cells #[.int .i64 (k : Int)] 3))
  have HG := Lib.hid (blk_new w (.cells #[.int .i64 (k : Int)] 3))
  have hx0 : (w.alloc (.cells #[.int .i64 (k : Int)] 3)).cell? ⟨w.heap.size, 0, none⟩ = some (.int .i64 (k : Int)) := (blk_cell HG.out 0).trans rfl
  have hX := made_Cauchy r k (fun i j => matrix_Cauchy.G (k : Int) i j) (w.alloc (.cells #[.int .i64 (k : Int)] 3)) (by omega) (by omega) ⟨w.heap.size, 0, none⟩ (fun i j W hi hj hb => matrix_Cauchy.lit (k : Int) (by omega) (by omega) w.heap.size i j (by omega) (by omega) W ((hb.cell (p := ⟨w.heap.size, 0, none⟩) (by exact blk_lt HG.out)).trans hx0) (h5 i hi j hj))
  have HX := Lib.hid hX
  have hk : (k : Int) ≤ 12 := by omega
  have hr : (r : Int) ≤ 4 := by omega
  have hk1 : (1 : Int) ≤ k := by omega
  have hr1 : (1 : Int) ≤ r := by omega
  clear ha hX h5 h1 h2 h3 h4
  go_enter Try.func11, Try.ntmps11
  go_wp2_with fail
  refine HX.out.mono ?_
  rintro e w' ⟨b, rfl, hr, hb⟩
  have HR := Lib.hid hr
  have HB2 := Lib.hid (below_step HB.out hb)
  clear hr hb
  go_wp2_with fail
  go_ret2
  refine ⟨_, rfl, ?_, HB2.out⟩
  rw [← HA.out]
  have hs := HR.out.S HB.out.size (by omega) (by omega)
  simp only [sz] at hs
  exact hs

end Go.Proofs.Ytmeckhfoajfapaa.PT
