/- A list of rows is the same as itself. No condition. -/
import Derived.Test.YtmmbojeikppinaaPEx0
import Derived.Test.YtmmbojeikppinaaGfTab
import Derived.Test.YtmmbojeikppinaaPEx17
import Derived.Test.YtmmbojeikppinaaPEx18
import Derived.Test.YtmmbojeikppinaaPEx3
import Derived.Test.YtmmbojeikppinaaGF
import Derived.Test.YtmmbojeikppinaaPEx6
import Derived.Test.YtmmbojeikppinaaPEx7
import Derived.Laws.BitsAllLaws
import Derived.Lib.Bytes
-- written by the session's own program (wip/prt.py) over the kit's print: not print.sh's own text
namespace Go.Proofs.Ytmmbojeikppinaa.PE
open Go.RowKit Go.Proofs.YtmmbojeikppinaaW.PrintWords Go.Proofs.YtmmbojeikppinaaW.PrintLast Go.Proofs.YtmmbojeikppinaaW.PrintMore
attribute [local go_sem] max2_int min2_int max_two min_two max_three min_three max_four min_four   -- for this text's walks alone
set_option linter.unusedVariables false
set_option linter.unusedSimpArgs false

/-! ### twoslotref05_Parity: function 15 -/
def twoslotref05_Parity.f (k : Nat) (a0 : Int) (a1 : Int) (l2 : List (List Int)) (a3 : Int) (l4 : List Int) : Option ((List (List Int)) × Int) := (twoslotref05_asked.f k a0 a1 l2).bind fun t224 => (if t224 = 0 then ((twoslotref05_All.f k a0 a1 l2 (([a3] : List Int)) (([l4] : List (List Int)))).bind fun bt231 => (some (bt231.1, bt231.2))) else (some (([] : List (List Int)), t224)))
theorem twoslotref05_Parity.mono : ∀ a0 a1 a2 a3 a4 k, LeO (twoslotref05_Parity.f k a0 a1 a2 a3 a4) (twoslotref05_Parity.f (k + 1) a0 a1 a2 a3 a4) := by
  intro a0 a1 a2 a3 a4 k
  unfold twoslotref05_Parity.f
  repeat' first
      | (with_reducible exact twoslotref05_All.mono _ _ _ _ _ _)
      | (with_reducible exact twoslotref05_asked.mono _ _ _ _)
      | (with_reducible exact LeO.refl _)
      | (with_reducible exact LeO.none _)
      | (with_reducible refine LeO.ite ?_ ?_)
      | (with_reducible refine LeO.bind ?_ (fun _ => ?_))
      | exact twoslotref05_All.mono _ _ _ _ _ _
      | exact twoslotref05_asked.mono _ _ _ _
      | exact LeO.none _
      | refine LeO.ite ?_ ?_
      | refine LeO.bind ?_ (fun _ => ?_)
set_option maxHeartbeats 8000000 in
set_option maxRecDepth 100000 in
theorem twoslotref05_Parity.calls (k : Nat) (a0 : Int) (a1 : Int) (A2 : Option Addr) (c2 : Nat) (l2 : List (List Int)) (a3 : Int) (P4_ : Nat → Prop) (A4 : Option Addr) (c4 : Nat) (l4 : List Int) (r1 : List (List Int)) (r2 : Int) (w : World) (hr2 : Kd.C (Kd.slice 5 (Kd.int .u8)) w A2 l2.length l2) (hc2 : l2.length ≤ c2) (hs4 : Kd.V (Kd.int .u8) 5 w w.heap.size (fun k_ => P4_ k_) (.slice A4 l4.length c4) l4) (h : twoslotref05_Parity.f k a0 a1 l2 a3 l4 = some (r1, r2)) :
    Calls Try.prog 15 #[.int .i64 a0, .int .i64 a1, .slice A2 l2.length c2, .int .i64 a3, .slice A4 l4.length c4] w fun e w' => ∃ v0_ : Value, e = .returned (.tuple #[v0_, .int .i64 r2]) ∧ Kd.N (Kd.slice 5 (Kd.int .u8)) 23 w' w.heap.size (fun k_ => (P4_ k_ ∨ w.heap.size ≤ k_)) v0_ r1 ∧ Below w.heap.size w w' := by
  have HR2 := Aside0.mk hr2
  have HC2 := Aside0.mk hc2
  clear hr2 hc2
  have HO4 := Aside0.mk (show Kd.V (Kd.int .u8) 5 w w.heap.size (fun k_ => (P4_ k_ ∨ w.heap.size ≤ k_)) (.slice A4 l4.length c4) l4 from Kd.V_mono hs4 (fun k_ hk => .inl hk))
  have HB := Aside0.mk (Below.refl w.heap.size w)
  have H : ((twoslotref05_asked.f k a0 a1 l2).bind fun t224 => (if t224 = 0 then ((twoslotref05_All.f k a0 a1 l2 (([a3] : List Int)) (([l4] : List (List Int)))).bind fun bt231 => (some (bt231.1, bt231.2))) else (some (([] : List (List Int)), t224)))) = some (r1, r2) := h
  clear h
  replace H := Option.bind_eq_some_iff.mp H
  obtain ⟨t224, A60, H⟩ := H
  replace H : (if t224 = 0 then ((twoslotref05_All.f k a0 a1 l2 (([a3] : List Int)) (([l4] : List (List Int)))).bind fun bt231 => (some (bt231.1, bt231.2))) else (some (([] : List (List Int)), t224))) = some (r1, r2) := H
  have A6 := Aside0.mk A60
  clear A60
  by_cases c7 : t224 = 0
  · rw [if_pos c7] at H
    have c7b0 : (t224 == 0) = true := beq_iff_eq.mpr c7
    have c7b1 : (t224 != 0) = false := bne_eq_false_iff_eq.mpr c7
    clear c7
    obtain ⟨y225, hy225⟩ : ∃ y_ : List Int, y_ = (([a3] : List Int)) := ⟨_, rfl⟩
    replace H : ((twoslotref05_All.f k a0 a1 l2 y225 (([l4] : List (List Int)))).bind fun bt231 => (some (bt231.1, bt231.2))) = some (r1, r2) := by first | (rw [hy225]; with_reducible exact H) | (have H2_ := (Option.bind_some _ _).symm.trans H; rw [hy225]; with_reducible exact H2_) | (have H2_ := (Option.bind_some _ _).symm.trans H; with_reducible exact H2_) | with_reducible exact H | (rw [hy225]; exact H) | exact H
    have Ny225 := Aside0.mk hy225
    clear hy225
    obtain ⟨y228, hy228⟩ : ∃ y_ : List (List Int), y_ = (([l4] : List (List Int))) := ⟨_, rfl⟩
    replace H : ((twoslotref05_All.f k a0 a1 l2 y225 y228).bind fun bt231 => (some (bt231.1, bt231.2))) = some (r1, r2) := by first | (rw [hy228]; with_reducible exact H) | (have H2_ := (Option.bind_some _ _).symm.trans H; rw [hy228]; with_reducible exact H2_) | (have H2_ := (Option.bind_some _ _).symm.trans H; with_reducible exact H2_) | with_reducible exact H | (rw [hy228]; exact H) | exact H
    have Ny228 := Aside0.mk hy228
    clear hy228
    replace H := Option.bind_eq_some_iff.mp H
    obtain ⟨⟨t231, t234⟩, A80, H⟩ := H
    replace H : (some (t231, t234)) = some (r1, r2) := H
    have A8 := Aside0.mk A80
    clear A80
    simp only [Option.some.injEq, Prod.mk.injEq] at H
    obtain ⟨rfl, rfl⟩ := H
    go_enter Try.func15, Try.ntmps15
    go_wp2_with (first | ((with_reducible refine gate_callee (f := 32) rfl ?_); refine goesL_ (some 16) rfl rfl Try.func32 (by kernel_rfl) rfl #[.int .i64 a0, .int .i64 a1, .slice A2 l2.length c2] rfl (by (try simp only [List.map_toArray, List.map_cons, List.map_nil]); first | done | rfl | (simp only [List.length_drop, List.length_take]; rfl)) ?_; (with_reducible refine (twoslotref05_asked.calls k a0 a1 _ _ l2 t224 _ ?side1 ?side2 A6.out).mono ?_); (case side1 => repeat (first | exact HR2.out | (with_reducible refine Kd.C_alloc ?_ _) | (with_reducible refine Kd.C_drewN ?_ _) | (with_reducible refine Kd.C_drew ?_))); (case side2 => exact HC2.out); rintro e w' ⟨rfl, ⟨nd, rfl⟩⟩; refine ⟨_, rfl, ?_⟩) | ((with_reducible refine gate_dst (N := 24) rfl ?_); refine Kd.R_lit (Kd.int .i64) _ 3 ?hg (N := 24) ?hd (xs := ([a3] : List Int)) (inner := [.int .i64 a3]) (ok := fun _ => True) (okp := fun _ => True) ?hr ?hp (fun _ hk => hk) trivial (Below.refl _ _) (Nat.le_refl _) (by simp) ?_; (case hd => rfl); (case hg => rfl); (case hr => first | (go_simp; done) | (go_simp; rfl)); (case hp => exact (Reps.one (show Kd.M (Kd.int .i64) _ _ _ a3 [.int .i64 a3] from rfl) (Reps.none _ _))); intro v226 w9 ho10 hb hg_ hnew_; clear hg_ hnew_; (first | rw [← Ny225.out] at ho10 | (simp only [Int.reduceToNat] at ho10; rw [← Ny225.out] at ho10)); have n0_ := Aside0.mk (Kd.V_elder' (by (with_reducible repeat (first | apply Kd.V_alloc | apply Kd.V_drewN | apply Kd.V_drew)); exact HO4.out) (Kd.R_base ho10) hb); have n1_ := Aside0.mk (Kd.R_lower (Kd.R_newM (M := fun k_ => (w.heap.size ≤ k_)) ho10 (below_size (by repeat (first | (with_reducible first | exact HB.out | apply below_alloc | apply pw_below_drewN | apply below_drew1) | exact HB.out))) (fun k_ h_ => h_)) (below_size (by repeat (first | (with_reducible first | exact HB.out | apply below_alloc | apply pw_below_drewN | apply below_drew1) | exact HB.out)))); have n2_ := Aside0.mk (below_step (by repeat (first | (with_reducible first | exact HB.out | apply below_alloc | apply pw_below_drewN | apply below_drew1) | exact HB.out)) hb); clear HO4; clear HB; have HO4 := n0_; have HO227 := n1_; have HB := n2_; clear n0_ n1_ n2_; clear hb ho10) | ((with_reducible refine gate_dst (N := 26) rfl ?_); refine Kd.N_lit (Kd.slice 5 (Kd.int .u8)) _ 23 ?hg (N' := 26) ?hd (xs := ([l4] : List (List Int))) (inner := [.slice A4 l4.length c4]) (ok := (fun k_ => (P4_ k_ ∨ w.heap.size ≤ k_) ∧ some k_ ≠ (v226 : Value).ownBlock)) (okp := (fun k_ => (P4_ k_ ∨ w.heap.size ≤ k_) ∧ some k_ ≠ (v226 : Value).ownBlock)) ?hr ?hp (fun _ hk => hk) ((show ∀ k_, w9.heap.size ≤ k_ → (fun k_ => (P4_ k_ ∨ w.heap.size ≤ k_) ∧ some k_ ≠ (v226 : Value).ownBlock) k_ from fun k_ hk => ⟨(.inr (Nat.le_trans (below_size (by repeat (first | (with_reducible first | exact HB.out | apply below_alloc | apply pw_below_drewN | apply below_drew1) | exact HB.out))) hk)), Kd.fresh' (Kd.R_lt (by (with_reducible repeat (first | apply Kd.R_alloc | apply Kd.R_drewN | apply Kd.R_drew)); exact HO227.out)) k_ hk⟩) _ (Nat.le_refl _)) (Below.refl _ _) (Nat.le_refl _) (by simp) ?_; (case hd => rfl); (case hg => rfl); (case hr => first | (go_simp; done) | (go_simp; rfl)); (case hp => exact (Reps.one (show Kd.FK (Kd.slice 5 (Kd.int .u8)) _ _ l4 [.slice A4 l4.length c4] from (Kd.FK_slice_mk (Kd.V_reads' (Kd.V_mono (ok' := (fun k_ => (P4_ k_ ∨ w.heap.size ≤ k_) ∧ some k_ ≠ (v226 : Value).ownBlock)) (HO4.out) (fun k_ hk => ⟨hk.1, hk.2⟩))).2.1 (Kd.V_F (Kd.V_mono (ok' := (fun k_ => (P4_ k_ ∨ w.heap.size ≤ k_) ∧ some k_ ≠ (v226 : Value).ownBlock)) (HO4.out) (fun k_ hk => ⟨hk.1, hk.2⟩))))) (Reps.none _ _))); intro v229 w11 ho12 hb hg_ hnew_; clear hg_ hnew_; (first | rw [← Ny228.out] at ho12 | (simp only [Int.reduceToNat] at ho12; rw [← Ny228.out] at ho12)); have n0_ := Aside0.mk (Kd.V_elder' (by (with_reducible repeat (first | apply Kd.V_alloc | apply Kd.V_drewN | apply Kd.V_drew)); exact HO4.out) (Kd.N_base ho12) hb); have n1_ := Aside0.mk (Kd.R_below (by (with_reducible repeat (first | apply Kd.R_alloc | apply Kd.R_drewN | apply Kd.R_drew)); exact HO227.out) hb); have n2_ := Aside0.mk (Kd.N_lower ho12 (below_size (by repeat (first | (with_reducible first | exact HB.out | apply below_alloc | apply pw_below_drewN | apply below_drew1) | exact HB.out)))); have n3_ := Aside0.mk (below_step (by repeat (first | (with_reducible first | exact HB.out | apply below_alloc | apply pw_below_drewN | apply below_drew1) | exact HB.out)) hb); clear HO4; clear HO227; clear HB; have HO4 := n0_; have HO227 := n1_; have HO230 := n2_; have HB := n3_; clear n0_ n1_ n2_ n3_; clear hb ho12; obtain ⟨Ao13, co13, eo13⟩ := Kd.R_slice HO227.out; subst eo13; obtain ⟨Ao14, co14, eo14⟩ := Kd.N_slice HO230.out; subst eo14) | ((with_reducible refine gate_callee (f := 19) rfl ?_); refine goesL_ (some 27) rfl rfl Try.func19 (by kernel_rfl) rfl #[.int .i64 a0, .int .i64 a1, .slice A2 l2.length c2, .slice Ao13 y225.length co13, .slice Ao14 y228.length co14] rfl (by (try simp only [List.map_toArray, List.map_cons, List.map_nil]); first | done | rfl | (simp only [List.length_drop, List.length_take]; rfl)) ?_; (with_reducible refine (twoslotref05_All.calls k a0 a1 _ _ l2 _ _ y225 _ _ y228 t231 t234 _ ?side1 ?side2 ?side3 ?side4 ?side5 ?side6 A8.out).mono ?_); (case side1 => repeat (first | exact (Kd.C_below HR2.out HB.out) | (with_reducible refine Kd.C_alloc ?_ _) | (with_reducible refine Kd.C_drewN ?_ _) | (with_reducible refine Kd.C_drew ?_))); (case side2 => exact HC2.out); (case side3 => repeat (first | exact (Kd.R_reads' HO227.out).2.2 | (with_reducible refine Kd.C_alloc ?_ _) | (with_reducible refine Kd.C_drewN ?_ _) | (with_reducible refine Kd.C_drew ?_))); (case side4 => exact (Kd.R_reads' HO227.out).2.1); (case side5 => repeat (first | exact (Kd.N_reads' HO230.out).2.2 | (with_reducible refine Kd.C_alloc ?_ _) | (with_reducible refine Kd.C_drewN ?_ _) | (with_reducible refine Kd.C_drew ?_))); (case side6 => exact (Kd.N_reads' HO230.out).2.1); rintro e w15 ⟨v232, rfl, ho0, hb⟩; refine ⟨_, rfl, ?_⟩; have n0_ := Aside0.mk (Kd.V_elder' (by (with_reducible repeat (first | apply Kd.V_alloc | apply Kd.V_drewN | apply Kd.V_drew)); exact HO4.out) (by first | exact Kd.N_base ho0 | exact Kd.S_base ho0) hb); have n1_ := Aside0.mk (Kd.R_below (by (with_reducible repeat (first | apply Kd.R_alloc | apply Kd.R_drewN | apply Kd.R_drew)); exact HO227.out) hb); have n2_ := Aside0.mk (Kd.N_elder' (by (with_reducible repeat (first | apply Kd.N_alloc | apply Kd.N_drewN | apply Kd.N_drew)); exact HO230.out) (by first | exact Kd.N_base ho0 | exact Kd.S_base ho0) hb); have n3_ := Aside0.mk (Kd.N_lower (Kd.N_mono (ok' := fun k_ => (P4_ k_ ∨ w.heap.size ≤ k_) ∧ some k_ ≠ (.slice Ao13 y225.length co13 : Value).ownBlock ∧ some k_ ≠ (.slice Ao14 y228.length co14 : Value).ownBlock) ho0 (fun k_ hk_ => ⟨(.inr (Nat.le_trans (below_size (by repeat (first | (with_reducible first | exact HB.out | apply below_alloc | apply pw_below_drewN | apply below_drew1) | exact HB.out))) hk_)), (Kd.fresh' (Kd.R_lt (by (with_reducible repeat (first | apply Kd.R_alloc | apply Kd.R_drewN | apply Kd.R_drew)); exact HO227.out)) k_ hk_), (Kd.fresh' (Kd.N_lt (by (with_reducible repeat (first | apply Kd.N_alloc | apply Kd.N_drewN | apply Kd.N_drew)); exact HO230.out)) k_ hk_)⟩)) (below_size (by repeat (first | (with_reducible first | exact HB.out | apply below_alloc | apply pw_below_drewN | apply below_drew1) | exact HB.out)))); have n4_ := Aside0.mk (below_step (by repeat (first | (with_reducible first | exact HB.out | apply below_alloc | apply pw_below_drewN | apply below_drew1) | exact HB.out)) hb); clear HO4; clear HO227; clear HO230; clear HB; have HO4 := n0_; have HO227 := n1_; have HO230 := n2_; have HO233 := n3_; have HB := n4_; clear n0_ n1_ n2_ n3_ n4_; (try clear hb); (try clear hb2); (try clear hk); (try clear hi); (try clear ho0)))
    go_ret2
    exact ⟨_, by first | rfl | (simp [errW_none, errW_some] <;> rfl) | (simp [*, errW_none, errW_some] <;> rfl), by (with_reducible repeat (first | apply Kd.N_alloc | apply Kd.N_drewN | apply Kd.N_drew)); exact Kd.N_mono HO233.out (fun _ hk => hk.1), by repeat (first | (with_reducible first | exact HB.out | apply below_alloc | apply pw_below_drewN | apply below_drew1) | exact HB.out)⟩
  · rw [if_neg c7] at H
    have c7b0 : (t224 == 0) = false := beq_eq_false_iff_ne.mpr c7
    have c7b1 : (t224 != 0) = true := bne_iff_ne.mpr c7
    simp only [Option.some.injEq, Prod.mk.injEq] at H
    obtain ⟨rfl, rfl⟩ := H
    go_enter Try.func15, Try.ntmps15
    go_wp2_with (first | ((with_reducible refine gate_callee (f := 32) rfl ?_); refine goesL_ (some 16) rfl rfl Try.func32 (by kernel_rfl) rfl #[.int .i64 a0, .int .i64 a1, .slice A2 l2.length c2] rfl (by (try simp only [List.map_toArray, List.map_cons, List.map_nil]); first | done | rfl | (simp only [List.length_drop, List.length_take]; rfl)) ?_; (with_reducible refine (twoslotref05_asked.calls k a0 a1 _ _ l2 t224 _ ?side1 ?side2 A6.out).mono ?_); (case side1 => repeat (first | exact HR2.out | (with_reducible refine Kd.C_alloc ?_ _) | (with_reducible refine Kd.C_drewN ?_ _) | (with_reducible refine Kd.C_drew ?_))); (case side2 => exact HC2.out); rintro e w' ⟨rfl, ⟨nd, rfl⟩⟩; refine ⟨_, rfl, ?_⟩))
    go_ret2
    exact ⟨_, by first | rfl | (simp [errW_none, errW_some] <;> rfl) | (simp [*, errW_none, errW_some] <;> rfl), by first | exact Kd.S_nil _ _ _ _ _ | exact Kd.N_nil _ _ _ _ _ | exact Kd.V_nil _ _ _ _ _ | exact Kd.Q_nil _ _ _ _ _ | exact Kd.R_nil _ _ _ _ _, by repeat (first | (with_reducible first | exact HB.out | apply below_alloc | apply pw_below_drewN | apply below_drew1) | exact HB.out)⟩

/-! ### twoslotref02_Same: function 16 -/
def twoslotref02_Same.f (l0 : List Int) (l1 : List Int) : Option (Bool) := some ((strOfNums l0).toList == (strOfNums l1).toList)
set_option maxHeartbeats 8000000 in
set_option maxRecDepth 100000 in
theorem twoslotref02_Same.calls (A0 : Option Addr) (c0 : Nat) (l0 : List Int) (A1 : Option Addr) (c1 : Nat) (l1 : List Int) (r : Bool) (w : World) (hr0 : Kd.C (Kd.int .u8) w A0 l0.length l0) (hc0 : l0.length ≤ c0) (hr1 : Kd.C (Kd.int .u8) w A1 l1.length l1) (hc1 : l1.length ≤ c1) (h : twoslotref02_Same.f l0 l1 = some r) :
    Calls Try.prog 16 #[.slice A0 l0.length c0, .slice A1 l1.length c1] w fun e w' => e = .returned (.bool r) ∧ Drawn0 w w' := by
  have HR0 := Aside0.mk hr0
  have HC0 := Aside0.mk hc0
  clear hr0 hc0
  have HR1 := Aside0.mk hr1
  have HC1 := Aside0.mk hc1
  clear hr1 hc1
  have H : (some ((strOfNums l0).toList == (strOfNums l1).toList)) = some r := h
  clear h
  obtain rfl := Option.some.inj H
  have hcv3 := Kd.C_string (P := Try.prog) (A := A0) (c := c0) Try.underlying23 Try.underlying5 Try.underlying9 HR0.out
  have hcv4 := fun n_ : Nat => Kd.C_string (P := Try.prog) (A := A0) (c := c0) Try.underlying23 Try.underlying5 Try.underlying9 (Kd.C_drewN (HR0.out) n_)
  have hcv5 := Kd.C_string (P := Try.prog) (A := A1) (c := c1) Try.underlying23 Try.underlying5 Try.underlying9 HR1.out
  have hcv6 := fun n_ : Nat => Kd.C_string (P := Try.prog) (A := A1) (c := c1) Try.underlying23 Try.underlying5 Try.underlying9 (Kd.C_drewN (HR1.out) n_)
  go_enter Try.func16, Try.ntmps16
  go_wp2
  go_ret
  exact ⟨by first | rfl | (simp; done) | (simp [*]; done), by repeat (first | exact Drawn0.refl _ | apply Drawn0.step)⟩

/-! ### twoslotref02_SameAll: function 17 -/
def twoslotref02_SameAll.l0 : Nat → List (List Int) → List (List Int) → Int → Option (Bool)
  | 0, _, _, _ => none
  | k + 1, x0, x1, x5 => if x5 < (x0.length : Int) then (if 0 ≤ x5 then (if x5 < (x1.length : Int) then (if (strOfNums (rd_L1 x0 x5)).toList = (strOfNums (rd_L1 x1 x5)).toList then (twoslotref02_SameAll.l0 k x0 x1 (wrap64 (x5 + 1))) else (some false)) else (none)) else (none)) else (some true)
def twoslotref02_SameAll.f (k : Nat) (l0 : List (List Int)) (l1 : List (List Int)) : Option (Bool) := if (l0.length : Int) = (l1.length : Int) then (twoslotref02_SameAll.l0 k l0 l1 0) else (some false)
theorem twoslotref02_SameAll.mono_l : ∀ k, (∀ y0 y1 y2, LeO (twoslotref02_SameAll.l0 k y0 y1 y2) (twoslotref02_SameAll.l0 (k + 1) y0 y1 y2))
  | 0 => fun _ _ _ r h => by simp [twoslotref02_SameAll.l0] at h
  | k + 1 => by
    have ih0 := twoslotref02_SameAll.mono_l k
    · intro y0 y1 y2
      unfold twoslotref02_SameAll.l0
      repeat' first
      | (with_reducible exact ih0 _ _ _)
      | (with_reducible exact LeO.refl _)
      | (with_reducible exact LeO.none _)
      | (with_reducible refine LeO.ite ?_ ?_)
      | (with_reducible refine LeO.bind ?_ (fun _ => ?_))
      | exact ih0 _ _ _
      | exact LeO.none _
      | refine LeO.ite ?_ ?_
      | refine LeO.bind ?_ (fun _ => ?_)
theorem twoslotref02_SameAll.mono : ∀ a0 a1 k, LeO (twoslotref02_SameAll.f k a0 a1) (twoslotref02_SameAll.f (k + 1) a0 a1) := by
  intro a0 a1 k
  have ih0 := twoslotref02_SameAll.mono_l k
  unfold twoslotref02_SameAll.f
  repeat' first
      | (with_reducible exact ih0 _ _ _)
      | (with_reducible exact LeO.refl _)
      | (with_reducible exact LeO.none _)
      | (with_reducible refine LeO.ite ?_ ?_)
      | (with_reducible refine LeO.bind ?_ (fun _ => ?_))
      | exact ih0 _ _ _
      | exact LeO.none _
      | refine LeO.ite ?_ ?_
      | refine LeO.bind ?_ (fun _ => ?_)
set_option maxHeartbeats 8000000 in
set_option maxRecDepth 100000 in
theorem twoslotref02_SameAll.calls (k : Nat) (A0 : Option Addr) (c0 : Nat) (l0 : List (List Int)) (A1 : Option Addr) (c1 : Nat) (l1 : List (List Int)) (r : Bool) (w : World) (hr0 : Kd.C (Kd.slice 5 (Kd.int .u8)) w A0 l0.length l0) (hc0 : l0.length ≤ c0) (hr1 : Kd.C (Kd.slice 5 (Kd.int .u8)) w A1 l1.length l1) (hc1 : l1.length ≤ c1) (h : twoslotref02_SameAll.f k l0 l1 = some r) :
    Calls Try.prog 17 #[.slice A0 l0.length c0, .slice A1 l1.length c1] w fun e w' => e = .returned (.bool r) ∧ Drawn0 w w' := by
  have HR0 := Aside0.mk hr0
  have HC0 := Aside0.mk hc0
  clear hr0 hc0
  have HR1 := Aside0.mk hr1
  have HC1 := Aside0.mk hc1
  clear hr1 hc1
  have H : (if (l0.length : Int) = (l1.length : Int) then (twoslotref02_SameAll.l0 k l0 l1 0) else (some false)) = some r := h
  clear h
  by_cases c3 : (l0.length : Int) = (l1.length : Int)
  · rw [if_pos c3] at H
    have c3b0 : ((l0.length : Int) == (l1.length : Int)) = true := beq_iff_eq.mpr c3
    have c3b1 : ((l0.length : Int) != (l1.length : Int)) = false := bne_eq_false_iff_eq.mpr c3
    have c3b2 : (l0.length == l1.length) = true := by first | simpa using c3 | (simp at c3 ⊢; omega)
    clear c3
    have H' := Aside0.mk H
    clear H
    go_enter Try.func17, Try.ntmps17
    go_wp2
    repeat (go_quiet (fail); try go_wp2)
    go_loopg [5] k (fun kq v5 w' => ∃ (x5_1 : Int), v5 = .int .i64 x5_1 ∧ Aside0 (twoslotref02_SameAll.l0 kq l0 l1 x5_1 = some r) ∧ Aside0 (kq ≤ k) ∧ Drawn0 w w')
    case atStart => exact ⟨(0), (by first | rfl | (simp; done) | (simp [*]; done)), H', ⟨Nat.le_refl _⟩, by repeat (first | exact Drawn0.refl _ | apply Drawn0.step)⟩
    case round =>
      clear H'
      try clear c1
      try clear p2
      try clear c3
      try clear c3b0
      try clear c3b1
      try clear c3b2
      obtain ⟨x5_1, rfl, HA, HK1, ⟨m1, rfl⟩⟩ := hrel
      cases gk with
      | zero => exact absurd HA.out (by simp [twoslotref02_SameAll.l0])
      | succ k1 =>
        have H := HA.out
        clear HA
        simp only [twoslotref02_SameAll.l0] at H
        by_cases c4 : x5_1 < (l0.length : Int)
        · rw [if_pos c4] at H
          have c4b0 : decide (x5_1 < (l0.length : Int)) = true := decide_eq_true c4
          clear c4
          by_cases c5 : 0 ≤ x5_1
          · rw [if_pos c5] at H
            have c5b0 : decide (0 ≤ x5_1) = true := decide_eq_true c5
            clear c5
            by_cases c6 : x5_1 < (l1.length : Int)
            · rw [if_pos c6] at H
              have c6b0 : decide (x5_1 < (l1.length : Int)) = true := decide_eq_true c6
              clear c6
              by_cases c7 : (strOfNums (rd_L1 l0 x5_1)).toList = (strOfNums (rd_L1 l1 x5_1)).toList
              · rw [if_pos c7] at H
                have c7b0 : ((strOfNums (rd_L1 l0 x5_1)).toList == (strOfNums (rd_L1 l1 x5_1)).toList) = true := beq_iff_eq.mpr c7
                have c7b1 : ((strOfNums (rd_L1 l0 x5_1)).toList != (strOfNums (rd_L1 l1 x5_1)).toList) = false := bne_eq_false_iff_eq.mpr c7
                clear c7
                have H' := Aside0.mk H
                clear H
                have p235 : 0 ≤ (x5_1 : Int) := of_decide_eq_true (by first | (with_reducible assumption) | assumption)
                have q235 : x5_1 < (l0.length : Int) := of_decide_eq_true (by first | (with_reducible assumption) | assumption)
                obtain ⟨ad235, A235_0, c235_0, e235, hx235_0, hl235_0, hi235_0⟩ := at_L1 HR0.out x5_1 p235 q235
                cases e235
                have HR235_0 := Aside0.mk hi235_0
                have HC235_0 := Aside0.mk hl235_0
                clear hi235_0 hl235_0
                replace p235 := eq_true p235
                replace q235 := eq_true q235
                have hcv8 := Kd.C_string (P := Try.prog) (A := A235_0) (c := c235_0) Try.underlying23 Try.underlying5 Try.underlying9 HR235_0.out
                have hcv9 := fun n_ : Nat => Kd.C_string (P := Try.prog) (A := A235_0) (c := c235_0) Try.underlying23 Try.underlying5 Try.underlying9 (Kd.C_drewN (HR235_0.out) n_)
                have p236 : 0 ≤ (x5_1 : Int) := of_decide_eq_true (by first | (with_reducible assumption) | assumption)
                have q236 : x5_1 < (l1.length : Int) := of_decide_eq_true (by first | (with_reducible assumption) | assumption)
                obtain ⟨ad236, A236_0, c236_0, e236, hx236_0, hl236_0, hi236_0⟩ := at_L1 HR1.out x5_1 p236 q236
                cases e236
                have HR236_0 := Aside0.mk hi236_0
                have HC236_0 := Aside0.mk hl236_0
                clear hi236_0 hl236_0
                replace p236 := eq_true p236
                replace q236 := eq_true q236
                have hcv10 := Kd.C_string (P := Try.prog) (A := A236_0) (c := c236_0) Try.underlying23 Try.underlying5 Try.underlying9 HR236_0.out
                have hcv11 := fun n_ : Nat => Kd.C_string (P := Try.prog) (A := A236_0) (c := c236_0) Try.underlying23 Try.underlying5 Try.underlying9 (Kd.C_drewN (HR236_0.out) n_)
                go_wp2
                repeat (go_quiet (fail); try go_wp2)
                go_roundg k1
                case measure => have := HK1.out; omega
                case rel => exact ⟨(wrap64 (x5_1 + 1)), (by first | rfl | (simp; done) | (simp [*]; done)), H', ⟨by have := HK1.out; omega⟩, by repeat (first | exact Drawn0.refl _ | apply Drawn0.step)⟩
              · rw [if_neg c7] at H
                have c7b0 : ((strOfNums (rd_L1 l0 x5_1)).toList == (strOfNums (rd_L1 l1 x5_1)).toList) = false := beq_eq_false_iff_ne.mpr c7
                have c7b1 : ((strOfNums (rd_L1 l0 x5_1)).toList != (strOfNums (rd_L1 l1 x5_1)).toList) = true := bne_iff_ne.mpr c7
                obtain rfl := Option.some.inj H
                have p235 : 0 ≤ (x5_1 : Int) := of_decide_eq_true (by first | (with_reducible assumption) | assumption)
                have q235 : x5_1 < (l0.length : Int) := of_decide_eq_true (by first | (with_reducible assumption) | assumption)
                obtain ⟨ad235, A235_0, c235_0, e235, hx235_0, hl235_0, hi235_0⟩ := at_L1 HR0.out x5_1 p235 q235
                cases e235
                have HR235_0 := Aside0.mk hi235_0
                have HC235_0 := Aside0.mk hl235_0
                clear hi235_0 hl235_0
                replace p235 := eq_true p235
                replace q235 := eq_true q235
                have hcv12 := Kd.C_string (P := Try.prog) (A := A235_0) (c := c235_0) Try.underlying23 Try.underlying5 Try.underlying9 HR235_0.out
                have hcv13 := fun n_ : Nat => Kd.C_string (P := Try.prog) (A := A235_0) (c := c235_0) Try.underlying23 Try.underlying5 Try.underlying9 (Kd.C_drewN (HR235_0.out) n_)
                have p236 : 0 ≤ (x5_1 : Int) := of_decide_eq_true (by first | (with_reducible assumption) | assumption)
                have q236 : x5_1 < (l1.length : Int) := of_decide_eq_true (by first | (with_reducible assumption) | assumption)
                obtain ⟨ad236, A236_0, c236_0, e236, hx236_0, hl236_0, hi236_0⟩ := at_L1 HR1.out x5_1 p236 q236
                cases e236
                have HR236_0 := Aside0.mk hi236_0
                have HC236_0 := Aside0.mk hl236_0
                clear hi236_0 hl236_0
                replace p236 := eq_true p236
                replace q236 := eq_true q236
                have hcv14 := Kd.C_string (P := Try.prog) (A := A236_0) (c := c236_0) Try.underlying23 Try.underlying5 Try.underlying9 HR236_0.out
                have hcv15 := fun n_ : Nat => Kd.C_string (P := Try.prog) (A := A236_0) (c := c236_0) Try.underlying23 Try.underlying5 Try.underlying9 (Kd.C_drewN (HR236_0.out) n_)
                go_wp2
                repeat (go_quiet (fail); try go_wp2)
                go_ret
                exact ⟨by first | rfl | (simp; done) | (simp [*]; done), by repeat (first | exact Drawn0.refl _ | apply Drawn0.step)⟩
            · rw [if_neg c6] at H
              exact absurd H (by simp)
          · rw [if_neg c5] at H
            exact absurd H (by simp)
        · rw [if_neg c4] at H
          have c4b0 : decide (x5_1 < (l0.length : Int)) = false := decide_eq_false c4
          clear c4
          obtain rfl := Option.some.inj H
          go_wp2
          repeat (go_quiet (fail); try go_wp2)
          go_ret
          exact ⟨by first | rfl | (simp; done) | (simp [*]; done), by repeat (first | exact Drawn0.refl _ | apply Drawn0.step)⟩
  · rw [if_neg c3] at H
    have c3b0 : ((l0.length : Int) == (l1.length : Int)) = false := beq_eq_false_iff_ne.mpr c3
    have c3b1 : ((l0.length : Int) != (l1.length : Int)) = true := bne_iff_ne.mpr c3
    have c3b2 : (l0.length == l1.length) = false := by first | simpa using c3 | (simp at c3 ⊢; omega)
    obtain rfl := Option.some.inj H
    go_enter Try.func17, Try.ntmps17
    go_wp2
    repeat (go_quiet (fail); try go_wp2)
    go_ret
    exact ⟨by first | rfl | (simp; done) | (simp [*]; done), by repeat (first | exact Drawn0.refl _ | apply Drawn0.step)⟩

end Go.Proofs.Ytmmbojeikppinaa.PE
namespace Go.Proofs.Ytmmbojeikppinaa.Pure
open Go Go.RowKit Go.TwoGf Go.Proofs.Ytmmbojeikppinaa.PE Go.Proofs.YtmmbojeikppinaaW.PrintWords Go.Proofs.YtmmbojeikppinaaW.PrintLast
theorem twice_f (a : Nat) (h : a < 256) : gf_twice.f (a : Int) = some (tw a : Int) := by
  have : ∀ a : Fin 256, gf_twice.f (a.val : Int) = some ((tw a.val : Nat) : Int) := by decide +kernel
  exact this ⟨a, h⟩
theorem odd_and (a b : Nat) (h : a < 256) (hb : b < 256) : Go.bits .and .u8 (a : Int) ((-(Go.bits .and .u8 (b : Int) 1)) % 256) = ((if b % 2 = 1 then a else 0 : Nat) : Int) := by
  have h1 : Go.bits .and .u8 (b : Int) 1 = ((b % 2 : Nat) : Int) := by
    rw [show (1 : Int) = ((1 : Nat) : Int) from rfl, u8_and_nat b 1 hb (by decide), Nat.and_one_is_mod]
  rw [h1]
  rcases Nat.mod_two_eq_zero_or_one b with e | e
  · rw [e]; show Go.bits .and .u8 (a : Int) ((0 : Nat) : Int) = _
    rw [u8_and_nat a 0 h (by decide)]; simp
  · rw [e]; show Go.bits .and .u8 (a : Int) ((255 : Nat) : Int) = _
    rw [u8_and_nat a 255 h (by decide)]
    have : a &&& 255 = a := by
      rw [show (255 : Nat) = 2 ^ 8 - 1 from rfl, Nat.and_two_pow_sub_one_eq_mod]; exact Nat.mod_eq_of_lt h
    simp [this]
theorem half_two (b : Nat) (hb : b < 256) : b = (if b % 2 = 1 then 1 else 0) ^^^ tw (b / 2) := by
  have : ∀ b : Fin 256, b.val = (if b.val % 2 = 1 then 1 else 0) ^^^ tw (b.val / 2) := by decide +kernel
  exact this ⟨b, hb⟩
theorem gm_half (a b : Nat) (ha : a < 256) (hb : b < 256) : gm a b = (if b % 2 = 1 then a else 0) ^^^ gm (tw a) (b / 2) := by
  have e : gm a b = gm a ((if b % 2 = 1 then 1 else 0) ^^^ tw (b / 2)) := congrArg (gm a) (half_two b hb)
  rw [e, gm_xor, ← gm_two (by omega : b / 2 < 256), gm_left_comm, ← gm_assoc, gm_two ha]
  congr 1
  split
  · exact gm_one ha
  · exact gm_zero a
theorem mul_l0 : ∀ (j k a b c : Nat), j < k → b < 2 ^ j → j ≤ 8 → a < 256 → c < 256 → gf_Mul.l0 k (a : Int) (b : Int) (c : Int) = some ((c ^^^ gm a b : Nat) : Int)
  | 0, k, a, b, c, hk, hb, _, ha, hc => by
    obtain ⟨k, rfl⟩ : ∃ m, k = m + 1 := ⟨k - 1, by omega⟩
    obtain rfl : b = 0 := by omega
    simp [gf_Mul.l0, gm_zero]
  | j + 1, k, a, b, c, hk, hb, hj, ha, hc => by
    obtain ⟨k, rfl⟩ : ∃ m, k = m + 1 := ⟨k - 1, by omega⟩
    by_cases h0 : b = 0
    · subst h0; simp [gf_Mul.l0, gm_zero]
    · have hb256 : b < 256 := Nat.lt_of_lt_of_le hb (Nat.pow_le_pow_right (by decide) hj)
      simp only [gf_Mul.l0]
      rw [if_neg (by omega), twice_f a ha]
      simp only [Option.bind_some]
      have hx : (if b % 2 = 1 then a else 0) < 256 := by split <;> omega
      rw [odd_and a b ha hb256, u8_xor_nat c _ hc hx, show (b : Int) / 2 = ((b / 2 : Nat) : Int) by omega]
      rw [mul_l0 j k (tw a) (b / 2) _ (by omega) (by rw [Nat.pow_succ] at hb; omega) (by omega) (tw_lt a) (xor_lt hc hx), gm_half a b ha hb256, Nat.xor_assoc]
theorem mul_f (k a b : Nat) (hk : 9 ≤ k) (ha : a < 256) (hb : b < 256) : gf_Mul.f k (a : Int) (b : Int) = some ((gm a b : Nat) : Int) := by
  have := mul_l0 8 k a b 0 (by omega) hb (by omega) ha (by decide)
  rw [Nat.zero_xor] at this
  exact this
end Go.Proofs.Ytmmbojeikppinaa.Pure
namespace Go.Proofs.Ytmmbojeikppinaa.Pure
open Go Go.RowKit Go.TwoGf Go.Proofs.Ytmmbojeikppinaa.PE Go.Proofs.YtmmbojeikppinaaW.PrintWords Go.Proofs.YtmmbojeikppinaaW.PrintLast
set_option linter.unusedVariables false
/-! the tables -/
theorem pwI_E : ∀ n, n < 255 → pwI n = (E n : Int)
  | 0, _ => by rw [E_zero]; rfl
  | n + 1, h => by
    have e := E_succ ⟨n, by omega⟩
    have e2 : E (n + 1) = tw (E n) := e
    have t := twice_f (E n) (E_lt n)
    rw [e2]
    show twI (pwI n) = _
    rw [pwI_E n (by omega)]
    exact Option.some.inj t
theorem pcells_at (n i : Nat) (h : i < n) (hn : n ≤ 255) : (pcells n)[i]? = some (.int .u8 (E i)) := by
  induction n with
  | zero => omega
  | succ n ih =>
    by_cases e : n = i
    · subst e; simp [pcells, pcells_size, pwI_E n (by omega), show n < 256 by omega]
    · rw [pcells, Array.getElem?_setIfInBounds_ne (by omega)]; exact ih (by omega) (by omega)
theorem powI_E (n : Nat) (h : n < 255) : powI n = (E n : Int) := by
  unfold powI; rw [pcells_at 255 n h (by omega)]; rfl
theorem wcells_at (n i : Nat) (h : i < n) (hn : n ≤ 255) : (wcells n)[E i]? = some (.int .u8 i) := by
  induction n with
  | zero => omega
  | succ n ih =>
    rw [wcells, pwI_E n (by omega), Int.toNat_natCast]
    by_cases e : n = i
    · subst e; simp [wcells_size, E_lt]
    · have : E n ≠ E i := by
        intro h1
        have := congrArg L h1
        rw [L_E (by omega), L_E (by omega)] at this
        exact e this
      rw [Array.getElem?_setIfInBounds_ne this]; exact ih (by omega) (by omega)
theorem logI_L (a : Nat) (h : a < 256) (h0 : a ≠ 0) : logI a = (L a : Int) := by
  have := wcells_at 255 (L a) (L_lt h h0) (by omega)
  rw [E_L h h0] at this
  unfold logI; rw [this]; rfl
theorem powIx_mod (x n : Int) : powIx x n = (x * n) % 255 := by
  have key : ∀ m : Int, (if Int.tmod m 255 < 0 then Int.tmod m 255 + 255 else Int.tmod m 255) = m % 255 := by
    intro m
    rcases Int.le_total 0 m with h | h
    · rw [Int.tmod_eq_emod_of_nonneg h]; split <;> omega
    · obtain ⟨k, rfl⟩ : ∃ k, m = -k := ⟨-m, by omega⟩
      rw [Int.neg_tmod, Int.tmod_eq_emod_of_nonneg (by omega)]; split <;> omega
  unfold powIx
  rw [key]
  have h2 : Int.tmod n 255 % 255 = n % 255 := by
    have := key n
    split at this <;> omega
  rw [Int.mul_emod, h2, ← Int.mul_emod]
/-- the power, of any whole number; 0 where there is none -/
def gp (a : Nat) (n : Int) : Nat := if n = 0 then 1 else if a = 0 then 0 else E (((L a : Int) * n) % 255).toNat
/-- its error -/
def gpe (a : Nat) (n : Int) : Int := if a = 0 ∧ n < 0 then 10 else 0
theorem pow_f (a : Nat) (n : Int) (h : a < 256) : gf_Pow.f (a : Int) n = some ((gp a n : Int), gpe a n) := by
  unfold gf_Pow.f gp gpe
  by_cases hn : n = 0
  · subst hn; simp
  rw [if_neg hn, if_neg hn]
  by_cases h0 : a = 0
  · subst h0
    by_cases hl : n < 0 <;> simp [hl]
  · rw [if_neg (by omega), if_pos (by omega), if_neg h0, Int.toNat_natCast, logI_L a h h0, powIx_mod, powI_E _ (by omega), if_neg (by omega)]
theorem gp_inv (a : Nat) (h : a < 256) (h0 : a ≠ 0) : gp a (-1) = gi a := by
  have : ∀ a : Fin 256, a.val ≠ 0 → gp a.val (-1) = gi a.val := by decide +kernel
  exact this ⟨a, h⟩ h0
theorem inv_f (a : Nat) (h : a < 256) : gf_Inv.f (a : Int) = some ((gi a : Int), if a = 0 then 10 else 0) := by
  unfold gf_Inv.f
  rw [pow_f a (-1) h]
  simp only [Option.bind_some]
  by_cases h0 : a = 0
  · subst h0; rfl
  · rw [gp_inv a h h0, if_neg h0]; unfold gpe; rw [if_neg (by omega)]
end Go.Proofs.Ytmmbojeikppinaa.Pure
namespace Go.Proofs.Ytmmbojeikppinaa.Pure
open Go Go.RowKit Go.TwoGf Go.Proofs.Ytmmbojeikppinaa Go.Proofs.Ytmmbojeikppinaa.PE Go.Proofs.YtmmbojeikppinaaW.PrintWords Go.Proofs.YtmmbojeikppinaaW.PrintLast Go.Proofs.YtmmbojeikppinaaW.PrintMore
def isB (l : List Int) : Prop := ∀ x ∈ l, 0 ≤ x ∧ x < 256
instance isBDec (l : List Int) : Decidable (isB l) := by unfold isB; infer_instance
theorem isB_nil : isB [] := fun x hx => by cases hx
theorem isB_cons {x : Int} {l : List Int} (h : isB (x :: l)) : (0 ≤ x ∧ x < 256) ∧ isB l := ⟨h x (by simp), fun y hy => h y (by simp [hy])⟩
theorem isB_wf {l : List Int} (h : ∀ x ∈ l, (Lit.int .u8 x).wf = true) : isB l := fun x hx => by
  have h2 : IntKind.u8.min ≤ x ∧ x ≤ IntKind.u8.max := by simpa [Lit.wf] using h x hx
  have e1 : IntKind.u8.min = 0 := by decide
  have e2 : IntKind.u8.max = 255 := by decide
  omega
theorem isB_rep (n : Nat) : isB (List.replicate n 0) := fun x hx => by rw [(List.mem_replicate.1 hx).2]; omega
theorem isB_rd {l : List Int} (h : isB l) (i : Int) : 0 ≤ rd l i ∧ rd l i < 256 := by
  unfold rd
  by_cases e : i.toNat < l.length
  · have : l.getD i.toNat 0 = l[i.toNat] := by simp [e]
    rw [this]; exact h _ (List.getElem_mem _)
  · have : l.getD i.toNat 0 = 0 := by simp [List.getElem?_eq_none (Nat.le_of_not_lt e)]
    rw [this]; omega
/-- the field's product, sum -/
def mI (c x : Int) : Int := ((gm c.toNat x.toNat : Nat) : Int)
def aI (x y : Int) : Int := Go.bits .xor .u8 x y
theorem mI_rng (c x : Int) : 0 ≤ mI c x ∧ mI c x < 256 := ⟨by unfold mI; omega, by have := gm_lt c.toNat x.toNat; unfold mI; omega⟩
theorem nat_of {x : Int} (h : 0 ≤ x ∧ x < 256) : ∃ n : Nat, n < 256 ∧ x = n := ⟨x.toNat, by omega, by omega⟩
theorem aI_nat {a b : Nat} (ha : a < 256) (hb : b < 256) : aI (a : Int) (b : Int) = ((a ^^^ b : Nat) : Int) := u8_xor_nat a b ha hb
theorem mI_nat (a b : Nat) : mI (a : Int) (b : Int) = ((gm a b : Nat) : Int) := rfl
theorem aI_rng {x y : Int} (hx : 0 ≤ x ∧ x < 256) (hy : 0 ≤ y ∧ y < 256) : 0 ≤ aI x y ∧ aI x y < 256 := by
  obtain ⟨a, ha, rfl⟩ := nat_of hx
  obtain ⟨b, hb, rfl⟩ := nat_of hy
  rw [aI_nat ha hb]
  have := xor_lt ha hb
  omega
theorem aI_zero {x : Int} (hx : 0 ≤ x ∧ x < 256) : aI 0 x = x := by
  obtain ⟨a, ha, rfl⟩ := nat_of hx
  rw [show (0 : Int) = ((0 : Nat) : Int) from rfl, aI_nat (by omega) ha, Nat.zero_xor]
theorem aI_comm {x y : Int} (hx : 0 ≤ x ∧ x < 256) (hy : 0 ≤ y ∧ y < 256) : aI x y = aI y x := by
  obtain ⟨a, ha, rfl⟩ := nat_of hx
  obtain ⟨b, hb, rfl⟩ := nat_of hy
  rw [aI_nat ha hb, aI_nat hb ha, Nat.xor_comm]
theorem aI_assoc {x y z : Int} (hx : 0 ≤ x ∧ x < 256) (hy : 0 ≤ y ∧ y < 256) (hz : 0 ≤ z ∧ z < 256) : aI (aI x y) z = aI x (aI y z) := by
  obtain ⟨a, ha, rfl⟩ := nat_of hx
  obtain ⟨b, hb, rfl⟩ := nat_of hy
  obtain ⟨c, hc, rfl⟩ := nat_of hz
  rw [aI_nat ha hb, aI_nat hb hc, aI_nat (xor_lt ha hb) hc, aI_nat ha (xor_lt hb hc), Nat.xor_assoc]
theorem mI_one {x : Int} (hx : 0 ≤ x ∧ x < 256) : mI 1 x = x := by
  obtain ⟨a, ha, rfl⟩ := nat_of hx
  rw [show (1 : Int) = ((1 : Nat) : Int) from rfl, mI_nat, one_gm ha]
theorem mulI_f {k : Nat} (hk : 9 ≤ k) {c x : Int} (hc : 0 ≤ c ∧ c < 256) (hx : 0 ≤ x ∧ x < 256) : gf_Mul.f k c x = some (mI c x) := by
  obtain ⟨a, ha, rfl⟩ := nat_of hc
  obtain ⟨b, hb, rfl⟩ := nat_of hx
  exact mul_f k a b hk ha hb
/-- a and c times b, byte by byte -/
def addv (a : List Int) (c : Int) (b : List Int) : List Int := List.zipWith (fun x y => aI x (mI c y)) a b
theorem addv_len {a b : List Int} (c : Int) (h : a.length ≤ b.length) : (addv a c b).length = a.length := by simp [addv]; omega
theorem addv_B {a : List Int} (c : Int) : ∀ {b : List Int}, isB a → isB (addv a c b) := by
  induction a with
  | nil => intro b _; simp [addv, isB]
  | cons x a ih =>
    intro b ha
    cases b with
    | nil => simp [addv, isB]
    | cons y b =>
      intro z hz
      simp only [addv, List.zipWith_cons_cons, List.mem_cons] at hz
      rcases hz with rfl | hz
      · exact aI_rng (isB_cons ha).1 (mI_rng _ _)
      · exact ih (isB_cons ha).2 z hz
theorem zipWith_on {f g : Int → Int → Int} : ∀ {a b : List Int}, (∀ x, ∀ y ∈ b, f x y = g x y) → List.zipWith f a b = List.zipWith g a b
  | [], _, _ => rfl
  | _ :: _, [], _ => rfl
  | x :: a, y :: b, h => by
    rw [List.zipWith_cons_cons, List.zipWith_cons_cons, h x y (by simp), zipWith_on (fun x z hz => h x z (by simp [hz]))]
theorem tab_f {k : Nat} (hk : 9 ≤ k) {c : Int} (hc : 0 ≤ c ∧ c < 256) : ∀ n, n ≤ 256 → kernel_add.tab k c n = some ((List.range n).map fun (i : Nat) => mI c (i : Int))
  | 0, _ => rfl
  | n + 1, h => by
    rw [kernel_add.tab, tab_f hk hc n (by omega)]
    simp only [Option.bind_some]
    rw [mulI_f hk hc ⟨by omega, by omega⟩]
    simp [List.range_succ]
theorem add_v {k : Nat} (hk : 9 ≤ k) {c : Int} (hc : 0 ≤ c ∧ c < 256) {a b : List Int} (hb : isB b) (hl : a.length ≤ b.length) : kernel_add.f k a c b = some (addv a c b) := by
  unfold kernel_add.f
  rw [tab_f hk hc 256 (Nat.le_refl _)]
  simp only [Option.bind_some]
  rw [if_pos ⟨hl, hb⟩]
  congr 1
  refine zipWith_on fun x y hy => ?_
  have := hb y hy
  unfold aI rd
  congr 1
  simp only [List.getD_eq_getElem?_getD, List.getElem?_map]
  rw [List.getElem?_range (by omega)]
  simp [Int.toNat_of_nonneg this.1]
/-- may slices be, and are they alike -/
def alk (l : List (List Int)) : Bool := l.all fun a => decide (a.length ≤ 65536) && decide (a.length = (rd_L1 l 0).length)
theorem wrap_s {i : Int} (h0 : 0 ≤ i) (h1 : i < 1000000) : wrap64 (i + 1) = i + 1 := by unfold wrap64; omega
theorem rd_L1_nat {l : List (List Int)} {i : Nat} (h : i < l.length) : rd_L1 l (i : Int) = l[i] := by simp [rd_L1, h]
theorem rd_nat {l : List Int} {i : Nat} (h : i < l.length) : rd l (i : Int) = l[i] := by simp [rd, h]
theorem alike_l0 (l : List (List Int)) (hl : l.length < 100000) : ∀ (d k i : Nat), i + d = l.length → d < k → kernel_alike.l0 k l l (l.length : Int) (i : Int) = some ((l.drop i).all fun a => decide (a.length ≤ 65536) && decide (a.length = (rd_L1 l 0).length))
  | 0, k, i, hi, hk => by
    obtain ⟨k, rfl⟩ : ∃ m, k = m + 1 := ⟨k - 1, by omega⟩
    obtain rfl : i = l.length := by omega
    simp [kernel_alike.l0]
  | d + 1, k, i, hi, hk => by
    obtain ⟨k, rfl⟩ : ∃ m, k = m + 1 := ⟨k - 1, by omega⟩
    have hlt : i < l.length := by omega
    simp only [kernel_alike.l0]
    rw [if_pos (by omega), if_pos (by omega), if_pos (by omega), rd_L1_nat hlt, List.drop_eq_getElem_cons hlt, List.all_cons]
    by_cases h1 : l[i].length ≤ 65536
    · rw [if_neg (by omega), if_pos (by omega)]
      by_cases h2 : l[i].length = (rd_L1 l 0).length
      · rw [if_pos (by omega), wrap_s (by omega) (by omega)]
        have := alike_l0 l hl d k (i + 1) (by omega) (by omega)
        rw [show ((i + 1 : Nat) : Int) = (i : Int) + 1 by omega] at this
        rw [this, decide_eq_true h1, decide_eq_true h2, Bool.true_and, Bool.true_and]
      · rw [if_neg (by omega), decide_eq_false h2, Bool.and_false, Bool.false_and]
    · rw [if_pos (by omega), decide_eq_false h1, Bool.false_and, Bool.false_and]
theorem alike_f {k : Nat} {l : List (List Int)} (hl : l.length < 100000) (hk : l.length < k) : kernel_alike.f k l = some (alk l) := by
  have := alike_l0 l hl l.length k 0 (by omega) hk
  exact this
theorem alk_two (a b : List Int) : alk [a, b] = (decide (a.length ≤ 65536) && decide (b.length = a.length)) := by
  simp only [alk, rd_L1, List.all_cons, List.all_nil]
  rw [Bool.eq_iff_iff]
  simp
  omega
/-- the sum, the multiple -/
def plusv (a : List Int) (c : Int) (b : List Int) : List Int × Int := if a.length ≤ 65536 ∧ b.length = a.length then (addv a c b, 0) else ([], 20)
theorem plus_f {k : Nat} (hk : 9 ≤ k) {c : Int} (hc : 0 ≤ c ∧ c < 256) {a b : List Int} (hb : isB b) : kernel_Plus.f k a c b = some (plusv a c b) := by
  unfold kernel_Plus.f plusv
  rw [alike_f (by simp) (by simp; omega), alk_two]
  simp only [Option.bind_some]
  by_cases h : a.length ≤ 65536 ∧ b.length = a.length
  · rw [if_pos (by simp [h]), if_pos h]
    unfold slices_Clone_byte_byte.f
    rw [if_pos (by omega)]
    simp only [Option.bind_some]
    rw [add_v hk hc hb (by omega)]
    rfl
  · rw [if_neg (by simp; omega), if_neg h]
theorem xor_f {k : Nat} (hk : 9 ≤ k) {a b : List Int} (hb : isB b) : kernel_Xor.f k a b = some (plusv a 1 b) := by
  unfold kernel_Xor.f
  rw [plus_f hk ⟨by decide, by decide⟩ hb]; rfl
/-- sums of multiples -/
def dacc : List Int → List Int → List (List Int) → List Int
  | acc, c :: cs, b :: bs => dacc (addv acc c b) cs bs
  | acc, _, _ => acc
def dotv (c : List Int) (l : List (List Int)) : List Int × Int :=
  if c.length ≤ 16 ∧ l.length = c.length ∧ alk l = true then (if l.length = 0 then ([], 0) else (dacc (List.replicate (rd_L1 l 0).length 0) c l, 0)) else ([], 20)
theorem dot_l0 {c : List Int} {l : List (List Int)} (hc : isB c) (hl : ∀ b ∈ l, isB b) (hcl : l.length = c.length) (hs : l.length ≤ 16) {n : Nat} (hn : ∀ b ∈ l, b.length = n) :
    ∀ (d k i : Nat) (acc : List Int), i + d = l.length → d + 9 < k → acc.length = n → kernel_Dot.l0 k c l acc (l.length : Int) (i : Int) = some (dacc acc (c.drop i) (l.drop i), 0)
  | 0, k, i, acc, hi, hk, _ => by
    obtain ⟨k, rfl⟩ : ∃ m, k = m + 1 := ⟨k - 1, by omega⟩
    obtain rfl : i = l.length := by omega
    simp [kernel_Dot.l0, dacc]
  | d + 1, k, i, acc, hi, hk, ha => by
    obtain ⟨k, rfl⟩ : ∃ m, k = m + 1 := ⟨k - 1, by omega⟩
    have hlt : i < l.length := by omega
    have hlt2 : i < c.length := by omega
    have hm : l[i] ∈ l := List.getElem_mem _
    simp only [kernel_Dot.l0]
    rw [if_pos (by omega), if_pos (by omega), if_pos (by omega), if_pos (by omega), rd_L1_nat hlt, add_v (by omega) (isB_rd hc _) (hl _ hm) (by rw [hn _ hm, ha]; exact Nat.le_refl _)]
    simp only [Option.bind_some]
    rw [wrap_s (by omega) (by omega)]
    have := dot_l0 hc hl hcl hs hn d k (i + 1) (addv acc (rd c i) l[i]) (by omega) (by omega) (by rw [addv_len _ (by rw [hn _ hm, ha]; exact Nat.le_refl _), ha])
    rw [show ((i + 1 : Nat) : Int) = (i : Int) + 1 by omega] at this
    rw [this, List.drop_eq_getElem_cons hlt, List.drop_eq_getElem_cons hlt2, dacc, rd_nat hlt2]
theorem alk_all {l : List (List Int)} (h : alk l = true) : ∀ b ∈ l, b.length = (rd_L1 l 0).length := fun b hb => by
  have := List.all_eq_true.1 h b hb
  simp at this; exact this.2
theorem dot_f {k : Nat} {c : List Int} {l : List (List Int)} (hs : l.length < 50000) (hk : l.length + 30 < k) (hc : isB c) (hl : ∀ b ∈ l, isB b) : kernel_Dot.f k c l = some (dotv c l) := by
  have hk1 : ∃ m, k = m + 1 := ⟨k - 1, by omega⟩
  unfold kernel_Dot.f dotv
  by_cases h1 : c.length ≤ 16
  case neg =>
    rw [if_pos (by omega), if_neg (by omega)]
    obtain ⟨k, rfl⟩ := hk1
    simp [kernel_Dot.j0]
  rw [if_neg (by omega)]
  by_cases h2 : l.length = c.length
  case neg =>
    rw [if_neg (by omega), if_neg (by omega)]
    obtain ⟨k, rfl⟩ := hk1
    simp [kernel_Dot.j0]
  rw [if_pos (by omega), alike_f (by omega) (by omega)]
  simp only [Option.bind_some]
  obtain ⟨k, rfl⟩ := hk1
  simp only [kernel_Dot.j0]
  cases h3 : alk l with
  | false => rw [if_pos (by decide), if_neg (by simp)]
  | true =>
    rw [if_neg (show ¬ (!true) = true by decide), if_pos (show c.length ≤ 16 ∧ l.length = c.length ∧ true = true from ⟨h1, h2, rfl⟩)]
    by_cases h4 : l.length = 0
    · rw [if_pos (show (l.length : Int) = 0 by omega), if_pos h4]
    · have h0 : 0 < l.length := by omega
      have e : rd_L1 l 0 = l[0] := rd_L1_nat (i := 0) h0
      have h5 : l[0].length ≤ 65536 := by
        have := List.all_eq_true.1 h3 l[0] (List.getElem_mem _)
        simp at this; exact this.1
      rw [if_neg (show ¬ (l.length : Int) = 0 by omega), if_neg h4, if_pos (show (0 : Int) < (l.length : Int) by omega), if_pos (show (0 : Int) ≤ ((rd_L1 l 0).length : Int) by omega), if_pos (show (((rd_L1 l 0).length : Int)).toNat ≤ 281474976710656 by rw [e, Int.toNat_natCast]; omega), Int.toNat_natCast]
      exact dot_l0 hc hl h2 (by omega) (alk_all h3) l.length k 0 _ (by omega) (by omega) (by simp)
theorem dacc_len : ∀ {c : List Int} {l : List (List Int)} {acc : List Int}, (∀ b ∈ l, acc.length ≤ b.length) → (dacc acc c l).length = acc.length
  | [], _, _, _ => rfl
  | _ :: _, [], _, _ => rfl
  | c :: cs, b :: bs, acc, h => by
    have h0 := h b (by simp)
    rw [dacc, dacc_len (fun b' hb => by rw [addv_len _ h0]; exact h b' (by simp [hb])), addv_len _ h0]
theorem dacc_B : ∀ {c : List Int} {l : List (List Int)} {acc : List Int}, isB acc → isB (dacc acc c l)
  | [], _, _, h => h
  | _ :: _, [], _, h => h
  | c :: cs, b :: bs, acc, h => by rw [dacc]; exact dacc_B (addv_B _ h)
end Go.Proofs.Ytmmbojeikppinaa.Pure
namespace Go.Proofs.Ytmmbojeikppinaa.Pure
open Go Go.RowKit Go.TwoGf Go.Proofs.Ytmmbojeikppinaa Go.Proofs.Ytmmbojeikppinaa.PE Go.Proofs.YtmmbojeikppinaaW.PrintWords Go.Proofs.YtmmbojeikppinaaW.PrintLast Go.Proofs.YtmmbojeikppinaaW.PrintMore
set_option linter.unusedVariables false
theorem sameAll_l0 (l : List (List Int)) (hs : l.length ≤ 100000) : ∀ (d k i : Nat), i + d = l.length → d < k → twoslotref02_SameAll.l0 k l l (i : Int) = some true
  | 0, k, i, hi, hk => by
    obtain ⟨k, rfl⟩ : ∃ m, k = m + 1 := ⟨k - 1, by omega⟩
    obtain rfl : i = l.length := by omega
    simp [twoslotref02_SameAll.l0]
  | d + 1, k, i, hi, hk => by
    obtain ⟨k, rfl⟩ : ∃ m, k = m + 1 := ⟨k - 1, by omega⟩
    have hlt : i < l.length := by omega
    have := sameAll_l0 l hs d k (i + 1) (by omega) (by omega)
    rw [show ((i + 1 : Nat) : Int) = (i : Int) + 1 by omega] at this
    simp only [twoslotref02_SameAll.l0]
    rw [if_pos (by omega), if_pos (by omega), if_pos (by omega), if_pos trivial, wrap_s (by omega) (by omega), this]
theorem sameAll_f {k : Nat} {l : List (List Int)} (hs : l.length ≤ 100000) (hk : l.length < k) : twoslotref02_SameAll.f k l l = some true := by
  unfold twoslotref02_SameAll.f
  rw [if_pos rfl]
  exact sameAll_l0 l hs l.length k 0 (by omega) hk
end Go.Proofs.Ytmmbojeikppinaa.Pure
