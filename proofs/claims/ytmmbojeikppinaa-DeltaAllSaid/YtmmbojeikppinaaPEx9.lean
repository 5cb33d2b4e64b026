-- written by the session's own program (wip/prt.py) over the kit's print: not print.sh's own text
import Derived.Test.YtmmbojeikppinaaPEx0
import Derived.Test.YtmmbojeikppinaaPEx7
import Derived.Test.YtmmbojeikppinaaPEx8
namespace Go.Proofs.Ytmmbojeikppinaa.PE
open Go.RowKit Go.Proofs.YtmmbojeikppinaaW.PrintWords Go.Proofs.YtmmbojeikppinaaW.PrintLast Go.Proofs.YtmmbojeikppinaaW.PrintMore
attribute [local go_sem] max2_int min2_int max_two min_two max_three min_three max_four min_four   -- for this text's walks alone
set_option linter.unusedVariables false
set_option linter.unusedSimpArgs false

/-! ### delta_Of: function 9 -/
def delta_Of.f (k : Nat) (l0 l1 : List Int) : Option (List Int × Int) := (delta_alike.f [l0, l1]).bind fun b => if b = true then kernel_Xor.f k l0 l1 else some ([], 40)
theorem delta_Of.mono : ∀ a0 a1 k, LeO (delta_Of.f k a0 a1) (delta_Of.f (k + 1) a0 a1) := fun _ _ _ => LeO.bind (LeO.refl _) (fun _ => LeO.ite (kernel_Xor.mono _ _ _) (LeO.refl _))
theorem delta_Of.calls (k : Nat) (A0 : Option Addr) (c0 : Nat) (l0 : List Int) (A1 : Option Addr) (c1 : Nat) (l1 : List Int) (r1 : List Int) (r2 : Int) (w : World) (hr0 : Kd.C (Kd.int .u8) w A0 l0.length l0) (hc0 : l0.length ≤ c0) (hr1 : Kd.C (Kd.int .u8) w A1 l1.length l1) (hc1 : l1.length ≤ c1) (h : delta_Of.f k l0 l1 = some (r1, r2)) :
    Calls Try.prog 9 #[.slice A0 l0.length c0, .slice A1 l1.length c1] w fun e w' => ∃ v0_ : Value, e = .returned (.tuple #[v0_, .int .i64 r2]) ∧ Kd.R (Kd.int .u8) 5 w' w.heap.size (fun _ => True) v0_ r1 ∧ Below w.heap.size w w' := by
  unfold delta_Of.f at h
  obtain ⟨b, hb, h⟩ := Option.bind_eq_some_iff.mp h
  have HBB := Lib.hid hb
  have H := Lib.hid h
  have HB := Lib.hid (below_alloc (Below.refl w.heap.size w) (.cells #[.slice A0 l0.length c0, .slice A1 l1.length c1] 23))
  have HR0 := Lib.hid (RowC.mk (Kd.C_below hr0 HB.out) hc0)
  have HR1 := Lib.hid (RowC.mk (Kd.C_below hr1 HB.out) hc1)
  have HL := Lib.hid (lit_rows (vs := [.slice A0 l0.length c0, .slice A1 l1.length c1]) (ys := [l0, l1]) (blk_new w (.cells #[.slice A0 l0.length c0, .slice A1 l1.length c1] 23)) rfl ((RowsC.one HR0.out).append (RowsC.one HR1.out)) (by simp))
  have HC0 := Lib.hid hr0
  have HC1 := Lib.hid hr1
  have HK0 := Lib.hid hc0
  have HK1 := Lib.hid hc1
  clear hr0 hr1 hc0 hc1 hb h HR0 HR1
  go_enter Try.func9, Try.ntmps9
  go_wp2_with fail
  refine (delta_alike.calls (some ⟨w.heap.size, 0, none⟩) 2 [l0, l1] b _ HL.out (Nat.le_refl _) HBB.out).mono ?_
  rintro e w1 ⟨rfl, hb⟩
  replace HB := Lib.hid (below_step HB.out hb)
  clear hb HL HBB
  cases b with
  | false =>
    have h := H.out
    rw [if_neg (by decide)] at h
    injection h with h; injection h with ha hc; subst ha hc
    clear H
    go_wp2_with fail
    go_ret2
    exact ⟨_, rfl, Kd.R_nil _ _ _ _ _, HB.out⟩
  | true =>
    have h := H.out
    rw [if_pos rfl] at h
    have HX := Lib.hid h
    clear H h
    go_wp2_with fail
    refine (kernel_Xor.calls k A0 c0 l0 A1 c1 l1 r1 r2 _ (Kd.C_below HC0.out HB.out) HK0.out (Kd.C_below HC1.out HB.out) HK1.out HX.out).mono ?_
    rintro e w2 ⟨v1, rfl, ho, hb⟩
    have HO := Lib.hid (Kd.R_lower ho (below_size HB.out))
    replace HB := Lib.hid (below_step HB.out hb)
    clear ho hb HX
    go_wp2_with fail
    go_ret2
    exact ⟨_, rfl, HO.out, HB.out⟩

/-! ### delta_Parity: function 10 -/
def delta_Parity.f (K : Nat) (k r : Int) (parity : List (List Int)) (cell : Int) (delta : List Int) : Option (List (List Int) × Int) := (delta_asked.f k r parity).bind fun e => if e ≠ 0 then some ([], e) else delta_All.f K k r parity [cell] [delta]
theorem delta_Parity.mono : ∀ a0 a1 a2 a3 a4 k, LeO (delta_Parity.f k a0 a1 a2 a3 a4) (delta_Parity.f (k + 1) a0 a1 a2 a3 a4) := fun _ _ _ _ _ _ => LeO.bind (LeO.refl _) (fun _ => LeO.ite (LeO.refl _) (delta_All.mono _ _ _ _ _ _))
theorem delta_Parity.calls (k : Nat) (a0 a1 : Int) (A2 : Option Addr) (c2 : Nat) (l2 : List (List Int)) (a3 : Int) (A4 : Option Addr) (c4 : Nat) (l4 : List Int) (r1 : List (List Int)) (r2 : Int) (w : World) (hr2 : Kd.C (Kd.slice 5 (Kd.int .u8)) w A2 l2.length l2) (hc2 : l2.length ≤ c2) (hr4 : Kd.C (Kd.int .u8) w A4 l4.length l4) (hc4 : l4.length ≤ c4) (h : delta_Parity.f k a0 a1 l2 a3 l4 = some (r1, r2)) :
    Calls Try.prog 10 #[.int .i64 a0, .int .i64 a1, .slice A2 l2.length c2, .int .i64 a3, .slice A4 l4.length c4] w fun e w' => ∃ v0_ : Value, e = .returned (.tuple #[v0_, .int .i64 r2]) ∧ Kd.S (Kd.slice 5 (Kd.int .u8)) 23 w' w.heap.size (fun _ => True) v0_ r1 ∧ Below w.heap.size w w' := by
  unfold delta_Parity.f at h
  obtain ⟨e, he, h⟩ := Option.bind_eq_some_iff.mp h
  have HE := Lib.hid he
  have H := Lib.hid h
  have HR2 := Lib.hid hr2
  have HC2 := Lib.hid hc2
  have HR4 := Lib.hid hr4
  have HC4 := Lib.hid hc4
  clear he h hr2 hc2 hr4 hc4
  go_enter Try.func10, Try.ntmps10
  go_wp2_with fail
  refine (delta_asked.calls a0 a1 A2 c2 l2 e _ HR2.out HC2.out HE.out).mono ?_
  rintro en w1 ⟨rfl, hb⟩
  have HB := Lib.hid hb
  clear hb
  by_cases h0 : e = 0
  case neg =>
    have h := H.out
    rw [if_pos h0] at h
    injection h with h; injection h with ha hc; subst ha hc
    have e1 : (e != 0) = true := bne_iff_ne.mpr h0
    clear h0 H
    go_wp2_with fail
    go_ret2
    exact ⟨_, rfl, Kd.S_nil _ _ _ _ _, HB.out⟩
  subst h0
  have h := H.out
  rw [if_neg (fun z => z rfl)] at h
  have HA := Lib.hid h
  have b1 := below_alloc (Below.refl w1.heap.size w1) (.cells #[.int .i64 a3] 3)
  have b2 := below_alloc b1 (.cells #[.slice A4 l4.length c4] 23)
  have q1 : ((w1.alloc (.cells #[.int .i64 a3] 3)).alloc (.cells #[.slice A4 l4.length c4] 23)).heap[w1.heap.size]? = some (.cells #[.int .i64 a3] 3) := blk_alloc (heap_alloc_at _ _ rfl) _
  have q2 : ((w1.alloc (.cells #[.int .i64 a3] 3)).alloc (.cells #[.slice A4 l4.length c4] 23)).heap[w1.heap.size + 1]? = some (.cells #[.slice A4 l4.length c4] 23) := heap_alloc_at _ _ (by simp)
  have HL1 := Lib.hid (lit_C (k := .i64) (xs := [a3]) q1 rfl (by simp))
  have HL2 := Lib.hid (lit_rows (vs := [.slice A4 l4.length c4]) (ys := [l4]) q2 rfl (RowsC.one (RowC.mk (Kd.C_below (Kd.C_below HR4.out HB.out) b2) HC4.out)) (by simp))
  have HR := Lib.hid (Kd.C_below (Kd.C_below HR2.out HB.out) b2)
  have HB2 := Lib.hid (below_step HB.out b2)
  clear b1 b2 q1 q2 h H
  go_wp2_with fail
  refine (delta_All.calls k a0 a1 A2 c2 l2 (some ⟨w1.heap.size, 0, none⟩) 1 [a3] (some ⟨w1.heap.size + 1, 0, none⟩) 1 [l4] r1 r2 _ HR.out HC2.out HL1.out (Nat.le_refl _) HL2.out (Nat.le_refl _) HA.out).mono ?_
  rintro en w2 ⟨v1, rfl, ho, hb⟩
  have HO := Lib.hid (Kd.S_lower ho HB2.out.size)
  have HB3 := Lib.hid (below_step HB2.out hb)
  clear ho hb
  go_wp2_with fail
  go_ret2
  exact ⟨_, rfl, HO.out, HB3.out⟩

/-! ### twoslotlaw05_alive: function 8 -/
def twoslotlaw05_alive.ok (k : Nat) : Prop := delta_Of.f k [1, 2] [3, 2] = some ([2, 0], 0) ∧ delta_Parity.f k 2 1 [[142]] 1 [1] = some ([[122]], 0) ∧ delta_All.f k 2 1 [[0]] [0, 1] [[1], [1]] = some ([[122]], 0) ∧ delta_All.f k 2 1 [[0]] [0, 0] [[1], [1]] = some ([], 2) ∧ delta_Of.f k [] [] = some ([], 40)
instance twoslotlaw05_alive.okDec (k : Nat) : Decidable (twoslotlaw05_alive.ok k) := by unfold twoslotlaw05_alive.ok; infer_instance
def twoslotlaw05_alive.f (k : Nat) : Option Bool := if twoslotlaw05_alive.ok k then some true else none
theorem twoslotlaw05_alive.mono : ∀ k, LeO (twoslotlaw05_alive.f k) (twoslotlaw05_alive.f (k + 1)) := fun k r h => by
  unfold twoslotlaw05_alive.f at h ⊢
  by_cases e : twoslotlaw05_alive.ok k
  · rw [if_pos e] at h
    rw [if_pos ?_]; · exact h
    obtain ⟨h1, h2, h3, h4, h5⟩ := e
    exact ⟨delta_Of.mono _ _ _ _ h1, delta_Parity.mono _ _ _ _ _ _ _ h2, delta_All.mono _ _ _ _ _ _ _ h3, delta_All.mono _ _ _ _ _ _ _ h4, delta_Of.mono _ _ _ _ h5⟩
  · rw [if_neg e] at h; cases h
set_option maxHeartbeats 8000000 in
set_option maxRecDepth 100000 in
theorem twoslotlaw05_alive.calls (k : Nat) (r : Bool) (w : World) (h : twoslotlaw05_alive.f k = some r) : Calls Try.prog 8 #[] w fun e w' => e = .returned (.bool r) ∧ Below w.heap.size w w' := by
  unfold twoslotlaw05_alive.f at h
  by_cases e : twoslotlaw05_alive.ok k
  case neg => rw [if_neg e] at h; cases h
  rw [if_pos e] at h
  injection h with h
  subst h
  obtain ⟨h1, h2, h3, h4, h5⟩ := e
  have H1 := Lib.hid h1
  have H2 := Lib.hid h2
  have H3 := Lib.hid h3
  have H4 := Lib.hid h4
  have H5 := Lib.hid h5
  clear h1 h2 h3 h4 h5
  have HB := Lib.hid (Below.refl w.heap.size w)
  go_enter Try.func8, Try.ntmps8
  have bw1 := below_alloc (below_alloc (Below.refl w.heap.size w) (.cells #[.int .u8 1, .int .u8 2] 5)) (.cells #[.int .u8 3, .int .u8 2] 5)
  have q1_0 : ((w.alloc (.cells #[.int .u8 1, .int .u8 2] 5)).alloc (.cells #[.int .u8 3, .int .u8 2] 5)).heap[w.heap.size]? = some (.cells #[.int .u8 1, .int .u8 2] 5) := blk_alloc (heap_alloc_at _ _ (by first | rfl | simp)) _
  have hL1_0 : Kd.C (Kd.int .u8) ((w.alloc (.cells #[.int .u8 1, .int .u8 2] 5)).alloc (.cells #[.int .u8 3, .int .u8 2] 5)) (some ⟨w.heap.size, 0, none⟩) 2 [1, 2] := lit_C (k := .u8) (xs := [1, 2]) q1_0 (by simp [encs]) (by decide)
  have q1_1 : ((w.alloc (.cells #[.int .u8 1, .int .u8 2] 5)).alloc (.cells #[.int .u8 3, .int .u8 2] 5)).heap[w.heap.size + 1]? = some (.cells #[.int .u8 3, .int .u8 2] 5) := heap_alloc_at _ _ (by first | rfl | simp)
  have hL1_1 : Kd.C (Kd.int .u8) ((w.alloc (.cells #[.int .u8 1, .int .u8 2] 5)).alloc (.cells #[.int .u8 3, .int .u8 2] 5)) (some ⟨w.heap.size + 1, 0, none⟩) 2 [3, 2] := lit_C (k := .u8) (xs := [3, 2]) q1_1 (by simp [encs]) (by decide)
  have H_hL1_0 := Lib.hid hL1_0
  have H_hL1_1 := Lib.hid hL1_1
  have H_bw1 := Lib.hid bw1
  clear q1_0 q1_1 hL1_0 hL1_1 bw1
  go_wp2_with fail
  refine (delta_Of.calls k (some ⟨w.heap.size, 0, none⟩) 2 [1, 2] (some ⟨w.heap.size + 1, 0, none⟩) 2 [3, 2] [2, 0] 0 _ H_hL1_0.out (Nat.le_refl _) H_hL1_1.out (Nat.le_refl _) H1.out).mono ?_
  rintro en w2 ⟨v1, rfl, ho, hb⟩
  have hbn := (below_step H_bw1.out hb)
  replace HB := Lib.hid (below_step HB.out hbn)
  obtain ⟨Ad, cd, rfl⟩ := Kd.R_slice ho
  have Fd := Lib.hid (Kd.R_reads' ho).2.2
  have Gd := Lib.hid (Kd.R_reads' ho).2.1
  clear ho
  clear hb hbn
  clear H_hL1_0 H_hL1_1
  clear H_bw1
  have bw3 := below_alloc (below_alloc (below_alloc (Below.refl w2.heap.size w2) (.cells #[.int .u8 142] 5)) (.cells #[.slice (some ⟨w2.heap.size, 0, none⟩) 1 1] 23)) (.cells #[.int .u8 1] 5)
  have q3_0 : (((w2.alloc (.cells #[.int .u8 142] 5)).alloc (.cells #[.slice (some ⟨w2.heap.size, 0, none⟩) 1 1] 23)).alloc (.cells #[.int .u8 1] 5)).heap[w2.heap.size]? = some (.cells #[.int .u8 142] 5) := blk_alloc (blk_alloc (heap_alloc_at _ _ (by first | rfl | simp)) _) _
  have hL3_0 : Kd.C (Kd.int .u8) (((w2.alloc (.cells #[.int .u8 142] 5)).alloc (.cells #[.slice (some ⟨w2.heap.size, 0, none⟩) 1 1] 23)).alloc (.cells #[.int .u8 1] 5)) (some ⟨w2.heap.size, 0, none⟩) 1 [142] := lit_C (k := .u8) (xs := [142]) q3_0 (by simp [encs]) (by decide)
  have q3_1 : (((w2.alloc (.cells #[.int .u8 142] 5)).alloc (.cells #[.slice (some ⟨w2.heap.size, 0, none⟩) 1 1] 23)).alloc (.cells #[.int .u8 1] 5)).heap[w2.heap.size + 1]? = some (.cells #[.slice (some ⟨w2.heap.size, 0, none⟩) 1 1] 23) := blk_alloc (heap_alloc_at _ _ (by first | rfl | simp)) _
  have hL3_1 : Kd.C (Kd.slice 5 (Kd.int .u8)) (((w2.alloc (.cells #[.int .u8 142] 5)).alloc (.cells #[.slice (some ⟨w2.heap.size, 0, none⟩) 1 1] 23)).alloc (.cells #[.int .u8 1] 5)) (some ⟨w2.heap.size + 1, 0, none⟩) 1 [[142]] := lit_rows (ys := [[142]]) q3_1 rfl (RowsC.one (RowC.mk hL3_0 (Nat.le_refl _))) (by simp)
  have q3_2 : (((w2.alloc (.cells #[.int .u8 142] 5)).alloc (.cells #[.slice (some ⟨w2.heap.size, 0, none⟩) 1 1] 23)).alloc (.cells #[.int .u8 1] 5)).heap[w2.heap.size + 2]? = some (.cells #[.int .u8 1] 5) := heap_alloc_at _ _ (by first | rfl | simp)
  have hL3_2 : Kd.C (Kd.int .u8) (((w2.alloc (.cells #[.int .u8 142] 5)).alloc (.cells #[.slice (some ⟨w2.heap.size, 0, none⟩) 1 1] 23)).alloc (.cells #[.int .u8 1] 5)) (some ⟨w2.heap.size + 2, 0, none⟩) 1 [1] := lit_C (k := .u8) (xs := [1]) q3_2 (by simp [encs]) (by decide)
  have H_hL3_0 := Lib.hid hL3_0
  have H_hL3_1 := Lib.hid hL3_1
  have H_hL3_2 := Lib.hid hL3_2
  have H_bw3 := Lib.hid bw3
  clear q3_0 q3_1 q3_2 hL3_0 hL3_1 hL3_2 bw3
  go_wp2_with fail
  refine (delta_Parity.calls k 2 1 (some ⟨w2.heap.size + 1, 0, none⟩) 1 [[142]] 1 (some ⟨w2.heap.size + 2, 0, none⟩) 1 [1] [[122]] 0 _ H_hL3_1.out (Nat.le_refl _) H_hL3_2.out (Nat.le_refl _) H2.out).mono ?_
  rintro en w4 ⟨v1, rfl, ho, hb⟩
  have hbn := (below_step H_bw3.out hb)
  replace Fd := Lib.hid (Kd.C_below Fd.out hbn)
  replace HB := Lib.hid (below_step HB.out hbn)
  obtain ⟨Ap, cp, rfl⟩ := Kd.S_slice ho
  have Fp := Lib.hid (Kd.S_reads' ho).2.2
  have Gp := Lib.hid (Kd.S_reads' ho).2.1
  clear ho
  clear hb hbn
  clear H_hL3_0 H_hL3_1 H_hL3_2
  clear H_bw3
  have bw5 := below_alloc (below_alloc (below_alloc (below_alloc (below_alloc (below_alloc (Below.refl w4.heap.size w4) (.cells #[.int .u8 0] 5)) (.cells #[.slice (some ⟨w4.heap.size, 0, none⟩) 1 1] 23)) (.cells #[.int .i64 0, .int .i64 1] 3)) (.cells #[.int .u8 1] 5)) (.cells #[.int .u8 1] 5)) (.cells #[.slice (some ⟨w4.heap.size + 3, 0, none⟩) 1 1, .slice (some ⟨w4.heap.size + 4, 0, none⟩) 1 1] 23)
  have q5_0 : ((((((w4.alloc (.cells #[.int .u8 0] 5)).alloc (.cells #[.slice (some ⟨w4.heap.size, 0, none⟩) 1 1] 23)).alloc (.cells #[.int .i64 0, .int .i64 1] 3)).alloc (.cells #[.int .u8 1] 5)).alloc (.cells #[.int .u8 1] 5)).alloc (.cells #[.slice (some ⟨w4.heap.size + 3, 0, none⟩) 1 1, .slice (some ⟨w4.heap.size + 4, 0, none⟩) 1 1] 23)).heap[w4.heap.size]? = some (.cells #[.int .u8 0] 5) := blk_alloc (blk_alloc (blk_alloc (blk_alloc (blk_alloc (heap_alloc_at _ _ (by first | rfl | simp)) _) _) _) _) _
  have hL5_0 : Kd.C (Kd.int .u8) ((((((w4.alloc (.cells #[.int .u8 0] 5)).alloc (.cells #[.slice (some ⟨w4.heap.size, 0, none⟩) 1 1] 23)).alloc (.cells #[.int .i64 0, .int .i64 1] 3)).alloc (.cells #[.int .u8 1] 5)).alloc (.cells #[.int .u8 1] 5)).alloc (.cells #[.slice (some ⟨w4.heap.size + 3, 0, none⟩) 1 1, .slice (some ⟨w4.heap.size + 4, 0, none⟩) 1 1] 23)) (some ⟨w4.heap.size, 0, none⟩) 1 [0] := lit_C (k := .u8) (xs := [0]) q5_0 (by simp [encs]) (by decide)
  have q5_1 : ((((((w4.alloc (.cells #[.int .u8 0] 5)).alloc (.cells #[.slice (some ⟨w4.heap.size, 0, none⟩) 1 1] 23)).alloc (.cells #[.int .i64 0, .int .i64 1] 3)).alloc (.cells #[.int .u8 1] 5)).alloc (.cells #[.int .u8 1] 5)).alloc (.cells #[.slice (some ⟨w4.heap.size + 3, 0, none⟩) 1 1, .slice (some ⟨w4.heap.size + 4, 0, none⟩) 1 1] 23)).heap[w4.heap.size + 1]? = some (.cells #[.slice (some ⟨w4.heap.size, 0, none⟩) 1 1] 23) := blk_alloc (blk_alloc (blk_alloc (blk_alloc (heap_alloc_at _ _ (by first | rfl | simp)) _) _) _) _
  have hL5_1 : Kd.C (Kd.slice 5 (Kd.int .u8)) ((((((w4.alloc (.cells #[.int .u8 0] 5)).alloc (.cells #[.slice (some ⟨w4.heap.size, 0, none⟩) 1 1] 23)).alloc (.cells #[.int .i64 0, .int .i64 1] 3)).alloc (.cells #[.int .u8 1] 5)).alloc (.cells #[.int .u8 1] 5)).alloc (.cells #[.slice (some ⟨w4.heap.size + 3, 0, none⟩) 1 1, .slice (some ⟨w4.heap.size + 4, 0, none⟩) 1 1] 23)) (some ⟨w4.heap.size + 1, 0, none⟩) 1 [[0]] := lit_rows (ys := [[0]]) q5_1 rfl (RowsC.one (RowC.mk hL5_0 (Nat.le_refl _))) (by simp)
  have q5_2 : ((((((w4.alloc (.cells #[.int .u8 0] 5)).alloc (.cells #[.slice (some ⟨w4.heap.size, 0, none⟩) 1 1] 23)).alloc (.cells #[.int .i64 0, .int .i64 1] 3)).alloc (.cells #[.int .u8 1] 5)).alloc (.cells #[.int .u8 1] 5)).alloc (.cells #[.slice (some ⟨w4.heap.size + 3, 0, none⟩) 1 1, .slice (some ⟨w4.heap.size + 4, 0, none⟩) 1 1] 23)).heap[w4.heap.size + 2]? = some (.cells #[.int .i64 0, .int .i64 1] 3) := blk_alloc (blk_alloc (blk_alloc (heap_alloc_at _ _ (by first | rfl | simp)) _) _) _
  have hL5_2 : Kd.C (Kd.int .i64) ((((((w4.alloc (.cells #[.int .u8 0] 5)).alloc (.cells #[.slice (some ⟨w4.heap.size, 0, none⟩) 1 1] 23)).alloc (.cells #[.int .i64 0, .int .i64 1] 3)).alloc (.cells #[.int .u8 1] 5)).alloc (.cells #[.int .u8 1] 5)).alloc (.cells #[.slice (some ⟨w4.heap.size + 3, 0, none⟩) 1 1, .slice (some ⟨w4.heap.size + 4, 0, none⟩) 1 1] 23)) (some ⟨w4.heap.size + 2, 0, none⟩) 2 [0, 1] := lit_C (k := .i64) (xs := [0, 1]) q5_2 (by simp [encs]) (by decide)
  have q5_3 : ((((((w4.alloc (.cells #[.int .u8 0] 5)).alloc (.cells #[.slice (some ⟨w4.heap.size, 0, none⟩) 1 1] 23)).alloc (.cells #[.int .i64 0, .int .i64 1] 3)).alloc (.cells #[.int .u8 1] 5)).alloc (.cells #[.int .u8 1] 5)).alloc (.cells #[.slice (some ⟨w4.heap.size + 3, 0, none⟩) 1 1, .slice (some ⟨w4.heap.size + 4, 0, none⟩) 1 1] 23)).heap[w4.heap.size + 3]? = some (.cells #[.int .u8 1] 5) := blk_alloc (blk_alloc (heap_alloc_at _ _ (by first | rfl | simp)) _) _
  have hL5_3 : Kd.C (Kd.int .u8) ((((((w4.alloc (.cells #[.int .u8 0] 5)).alloc (.cells #[.slice (some ⟨w4.heap.size, 0, none⟩) 1 1] 23)).alloc (.cells #[.int .i64 0, .int .i64 1] 3)).alloc (.cells #[.int .u8 1] 5)).alloc (.cells #[.int .u8 1] 5)).alloc (.cells #[.slice (some ⟨w4.heap.size + 3, 0, none⟩) 1 1, .slice (some ⟨w4.heap.size + 4, 0, none⟩) 1 1] 23)) (some ⟨w4.heap.size + 3, 0, none⟩) 1 [1] := lit_C (k := .u8) (xs := [1]) q5_3 (by simp [encs]) (by decide)
  have q5_4 : ((((((w4.alloc (.cells #[.int .u8 0] 5)).alloc (.cells #[.slice (some ⟨w4.heap.size, 0, none⟩) 1 1] 23)).alloc (.cells #[.int .i64 0, .int .i64 1] 3)).alloc (.cells #[.int .u8 1] 5)).alloc (.cells #[.int .u8 1] 5)).alloc (.cells #[.slice (some ⟨w4.heap.size + 3, 0, none⟩) 1 1, .slice (some ⟨w4.heap.size + 4, 0, none⟩) 1 1] 23)).heap[w4.heap.size + 4]? = some (.cells #[.int .u8 1] 5) := blk_alloc (heap_alloc_at _ _ (by first | rfl | simp)) _
  have hL5_4 : Kd.C (Kd.int .u8) ((((((w4.alloc (.cells #[.int .u8 0] 5)).alloc (.cells #[.slice (some ⟨w4.heap.size, 0, none⟩) 1 1] 23)).alloc (.cells #[.int .i64 0, .int .i64 1] 3)).alloc (.cells #[.int .u8 1] 5)).alloc (.cells #[.int .u8 1] 5)).alloc (.cells #[.slice (some ⟨w4.heap.size + 3, 0, none⟩) 1 1, .slice (some ⟨w4.heap.size + 4, 0, none⟩) 1 1] 23)) (some ⟨w4.heap.size + 4, 0, none⟩) 1 [1] := lit_C (k := .u8) (xs := [1]) q5_4 (by simp [encs]) (by decide)
  have q5_5 : ((((((w4.alloc (.cells #[.int .u8 0] 5)).alloc (.cells #[.slice (some ⟨w4.heap.size, 0, none⟩) 1 1] 23)).alloc (.cells #[.int .i64 0, .int .i64 1] 3)).alloc (.cells #[.int .u8 1] 5)).alloc (.cells #[.int .u8 1] 5)).alloc (.cells #[.slice (some ⟨w4.heap.size + 3, 0, none⟩) 1 1, .slice (some ⟨w4.heap.size + 4, 0, none⟩) 1 1] 23)).heap[w4.heap.size + 5]? = some (.cells #[.slice (some ⟨w4.heap.size + 3, 0, none⟩) 1 1, .slice (some ⟨w4.heap.size + 4, 0, none⟩) 1 1] 23) := heap_alloc_at _ _ (by first | rfl | simp)
  have hL5_5 : Kd.C (Kd.slice 5 (Kd.int .u8)) ((((((w4.alloc (.cells #[.int .u8 0] 5)).alloc (.cells #[.slice (some ⟨w4.heap.size, 0, none⟩) 1 1] 23)).alloc (.cells #[.int .i64 0, .int .i64 1] 3)).alloc (.cells #[.int .u8 1] 5)).alloc (.cells #[.int .u8 1] 5)).alloc (.cells #[.slice (some ⟨w4.heap.size + 3, 0, none⟩) 1 1, .slice (some ⟨w4.heap.size + 4, 0, none⟩) 1 1] 23)) (some ⟨w4.heap.size + 5, 0, none⟩) 2 [[1], [1]] := lit_rows (ys := [[1], [1]]) q5_5 rfl ((RowsC.one (RowC.mk hL5_3 (Nat.le_refl _))).append (RowsC.one (RowC.mk hL5_4 (Nat.le_refl _)))) (by simp)
  have H_hL5_0 := Lib.hid hL5_0
  have H_hL5_1 := Lib.hid hL5_1
  have H_hL5_2 := Lib.hid hL5_2
  have H_hL5_3 := Lib.hid hL5_3
  have H_hL5_4 := Lib.hid hL5_4
  have H_hL5_5 := Lib.hid hL5_5
  have H_bw5 := Lib.hid bw5
  clear q5_0 q5_1 q5_2 q5_3 q5_4 q5_5 hL5_0 hL5_1 hL5_2 hL5_3 hL5_4 hL5_5 bw5
  go_wp2_with fail
  refine (delta_All.calls k 2 1 (some ⟨w4.heap.size + 1, 0, none⟩) 1 [[0]] (some ⟨w4.heap.size + 2, 0, none⟩) 2 [0, 1] (some ⟨w4.heap.size + 5, 0, none⟩) 2 [[1], [1]] [[122]] 0 _ H_hL5_1.out (Nat.le_refl _) H_hL5_2.out (Nat.le_refl _) H_hL5_5.out (Nat.le_refl _) H3.out).mono ?_
  rintro en w6 ⟨v1, rfl, ho, hb⟩
  have hbn := (below_step H_bw5.out hb)
  replace Fd := Lib.hid (Kd.C_below Fd.out hbn)
  replace Fp := Lib.hid (Kd.C_below Fp.out hbn)
  replace HB := Lib.hid (below_step HB.out hbn)
  obtain ⟨Aq, cq, rfl⟩ := Kd.S_slice ho
  have Fq := Lib.hid (Kd.S_reads' ho).2.2
  have Gq := Lib.hid (Kd.S_reads' ho).2.1
  clear ho
  clear hb hbn
  clear H_hL5_0 H_hL5_1 H_hL5_2 H_hL5_3 H_hL5_4 H_hL5_5
  clear H_bw5
  have bw7 := below_alloc (below_alloc (below_alloc (below_alloc (below_alloc (below_alloc (Below.refl w6.heap.size w6) (.cells #[.int .u8 0] 5)) (.cells #[.slice (some ⟨w6.heap.size, 0, none⟩) 1 1] 23)) (.cells #[.int .i64 0, .int .i64 0] 3)) (.cells #[.int .u8 1] 5)) (.cells #[.int .u8 1] 5)) (.cells #[.slice (some ⟨w6.heap.size + 3, 0, none⟩) 1 1, .slice (some ⟨w6.heap.size + 4, 0, none⟩) 1 1] 23)
  have q7_0 : ((((((w6.alloc (.cells #[.int .u8 0] 5)).alloc (.cells #[.slice (some ⟨w6.heap.size, 0, none⟩) 1 1] 23)).alloc (.cells #[.int .i64 0, .int .i64 0] 3)).alloc (.cells #[.int .u8 1] 5)).alloc (.cells #[.int .u8 1] 5)).alloc (.cells #[.slice (some ⟨w6.heap.size + 3, 0, none⟩) 1 1, .slice (some ⟨w6.heap.size + 4, 0, none⟩) 1 1] 23)).heap[w6.heap.size]? = some (.cells #[.int .u8 0] 5) := blk_alloc (blk_alloc (blk_alloc (blk_alloc (blk_alloc (heap_alloc_at _ _ (by first | rfl | simp)) _) _) _) _) _
  have hL7_0 : Kd.C (Kd.int .u8) ((((((w6.alloc (.cells #[.int .u8 0] 5)).alloc (.cells #[.slice (some ⟨w6.heap.size, 0, none⟩) 1 1] 23)).alloc (.cells #[.int .i64 0, .int .i64 0] 3)).alloc (.cells #[.int .u8 1] 5)).alloc (.cells #[.int .u8 1] 5)).alloc (.cells #[.slice (some ⟨w6.heap.size + 3, 0, none⟩) 1 1, .slice (some ⟨w6.heap.size + 4, 0, none⟩) 1 1] 23)) (some ⟨w6.heap.size, 0, none⟩) 1 [0] := lit_C (k := .u8) (xs := [0]) q7_0 (by simp [encs]) (by decide)
  have q7_1 : ((((((w6.alloc (.cells #[.int .u8 0] 5)).alloc (.cells #[.slice (some ⟨w6.heap.size, 0, none⟩) 1 1] 23)).alloc (.cells #[.int .i64 0, .int .i64 0] 3)).alloc (.cells #[.int .u8 1] 5)).alloc (.cells #[.int .u8 1] 5)).alloc (.cells #[.slice (some ⟨w6.heap.size + 3, 0, none⟩) 1 1, .slice (some ⟨w6.heap.size + 4, 0, none⟩) 1 1] 23)).heap[w6.heap.size + 1]? = some (.cells #[.slice (some ⟨w6.heap.size, 0, none⟩) 1 1] 23) := blk_alloc (blk_alloc (blk_alloc (blk_alloc (heap_alloc_at _ _ (by first | rfl | simp)) _) _) _) _
  have hL7_1 : Kd.C (Kd.slice 5 (Kd.int .u8)) ((((((w6.alloc (.cells #[.int .u8 0] 5)).alloc (.cells #[.slice (some ⟨w6.heap.size, 0, none⟩) 1 1] 23)).alloc (.cells #[.int .i64 0, .int .i64 0] 3)).alloc (.cells #[.int .u8 1] 5)).alloc (.cells #[.int .u8 1] 5)).alloc (.cells #[.slice (some ⟨w6.heap.size + 3, 0, none⟩) 1 1, .slice (some ⟨w6.heap.size + 4, 0, none⟩) 1 1] 23)) (some ⟨w6.heap.size + 1, 0, none⟩) 1 [[0]] := lit_rows (ys := [[0]]) q7_1 rfl (RowsC.one (RowC.mk hL7_0 (Nat.le_refl _))) (by simp)
  have q7_2 : ((((((w6.alloc (.cells #[.int .u8 0] 5)).alloc (.cells #[.slice (some ⟨w6.heap.size, 0, none⟩) 1 1] 23)).alloc (.cells #[.int .i64 0, .int .i64 0] 3)).alloc (.cells #[.int .u8 1] 5)).alloc (.cells #[.int .u8 1] 5)).alloc (.cells #[.slice (some ⟨w6.heap.size + 3, 0, none⟩) 1 1, .slice (some ⟨w6.heap.size + 4, 0, none⟩) 1 1] 23)).heap[w6.heap.size + 2]? = some (.cells #[.int .i64 0, .int .i64 0] 3) := blk_alloc (blk_alloc (blk_alloc (heap_alloc_at _ _ (by first | rfl | simp)) _) _) _
  have hL7_2 : Kd.C (Kd.int .i64) ((((((w6.alloc (.cells #[.int .u8 0] 5)).alloc (.cells #[.slice (some ⟨w6.heap.size, 0, none⟩) 1 1] 23)).alloc (.cells #[.int .i64 0, .int .i64 0] 3)).alloc (.cells #[.int .u8 1] 5)).alloc (.cells #[.int .u8 1] 5)).alloc (.cells #[.slice (some ⟨w6.heap.size + 3, 0, none⟩) 1 1, .slice (some ⟨w6.heap.size + 4, 0, none⟩) 1 1] 23)) (some ⟨w6.heap.size + 2, 0, none⟩) 2 [0, 0] := lit_C (k := .i64) (xs := [0, 0]) q7_2 (by simp [encs]) (by decide)
  have q7_3 : ((((((w6.alloc (.cells #[.int .u8 0] 5)).alloc (.cells #[.slice (some ⟨w6.heap.size, 0, none⟩) 1 1] 23)).alloc (.cells #[.int .i64 0, .int .i64 0] 3)).alloc (.cells #[.int .u8 1] 5)).alloc (.cells #[.int .u8 1] 5)).alloc (.cells #[.slice (some ⟨w6.heap.size + 3, 0, none⟩) 1 1, .slice (some ⟨w6.heap.size + 4, 0, none⟩) 1 1] 23)).heap[w6.heap.size + 3]? = some (.cells #[.int .u8 1] 5) := blk_alloc (blk_alloc (heap_alloc_at _ _ (by first | rfl | simp)) _) _
  have hL7_3 : Kd.C (Kd.int .u8) ((((((w6.alloc (.cells #[.int .u8 0] 5)).alloc (.cells #[.slice (some ⟨w6.heap.size, 0, none⟩) 1 1] 23)).alloc (.cells #[.int .i64 0, .int .i64 0] 3)).alloc (.cells #[.int .u8 1] 5)).alloc (.cells #[.int .u8 1] 5)).alloc (.cells #[.slice (some ⟨w6.heap.size + 3, 0, none⟩) 1 1, .slice (some ⟨w6.heap.size + 4, 0, none⟩) 1 1] 23)) (some ⟨w6.heap.size + 3, 0, none⟩) 1 [1] := lit_C (k := .u8) (xs := [1]) q7_3 (by simp [encs]) (by decide)
  have q7_4 : ((((((w6.alloc (.cells #[.int .u8 0] 5)).alloc (.cells #[.slice (some ⟨w6.heap.size, 0, none⟩) 1 1] 23)).alloc (.cells #[.int .i64 0, .int .i64 0] 3)).alloc (.cells #[.int .u8 1] 5)).alloc (.cells #[.int .u8 1] 5)).alloc (.cells #[.slice (some ⟨w6.heap.size + 3, 0, none⟩) 1 1, .slice (some ⟨w6.heap.size + 4, 0, none⟩) 1 1] 23)).heap[w6.heap.size + 4]? = some (.cells #[.int .u8 1] 5) := blk_alloc (heap_alloc_at _ _ (by first | rfl | simp)) _
  have hL7_4 : Kd.C (Kd.int .u8) ((((((w6.alloc (.cells #[.int .u8 0] 5)).alloc (.cells #[.slice (some ⟨w6.heap.size, 0, none⟩) 1 1] 23)).alloc (.cells #[.int .i64 0, .int .i64 0] 3)).alloc (.cells #[.int .u8 1] 5)).alloc (.cells #[.int .u8 1] 5)).alloc (.cells #[.slice (some ⟨w6.heap.size + 3, 0, none⟩) 1 1, .slice (some ⟨w6.heap.size + 4, 0, none⟩) 1 1] 23)) (some ⟨w6.heap.size + 4, 0, none⟩) 1 [1] := lit_C (k := .u8) (xs := [1]) q7_4 (by simp [encs]) (by decide)
  have q7_5 : ((((((w6.alloc (.cells #[.int .u8 0] 5)).alloc (.cells #[.slice (some ⟨w6.heap.size, 0, none⟩) 1 1] 23)).alloc (.cells #[.int .i64 0, .int .i64 0] 3)).alloc (.cells #[.int .u8 1] 5)).alloc (.cells #[.int .u8 1] 5)).alloc (.cells #[.slice (some ⟨w6.heap.size + 3, 0, none⟩) 1 1, .slice (some ⟨w6.heap.size + 4, 0, none⟩) 1 1] 23)).heap[w6.heap.size + 5]? = some (.cells #[.slice (some ⟨w6.heap.size + 3, 0, none⟩) 1 1, .slice (some ⟨w6.heap.size + 4, 0, none⟩) 1 1] 23) := heap_alloc_at _ _ (by first | rfl | simp)
  have hL7_5 : Kd.C (Kd.slice 5 (Kd.int .u8)) ((((((w6.alloc (.cells #[.int .u8 0] 5)).alloc (.cells #[.slice (some ⟨w6.heap.size, 0, none⟩) 1 1] 23)).alloc (.cells #[.int .i64 0, .int .i64 0] 3)).alloc (.cells #[.int .u8 1] 5)).alloc (.cells #[.int .u8 1] 5)).alloc (.cells #[.slice (some ⟨w6.heap.size + 3, 0, none⟩) 1 1, .slice (some ⟨w6.heap.size + 4, 0, none⟩) 1 1] 23)) (some ⟨w6.heap.size + 5, 0, none⟩) 2 [[1], [1]] := lit_rows (ys := [[1], [1]]) q7_5 rfl ((RowsC.one (RowC.mk hL7_3 (Nat.le_refl _))).append (RowsC.one (RowC.mk hL7_4 (Nat.le_refl _)))) (by simp)
  have H_hL7_0 := Lib.hid hL7_0
  have H_hL7_1 := Lib.hid hL7_1
  have H_hL7_2 := Lib.hid hL7_2
  have H_hL7_3 := Lib.hid hL7_3
  have H_hL7_4 := Lib.hid hL7_4
  have H_hL7_5 := Lib.hid hL7_5
  have H_bw7 := Lib.hid bw7
  clear q7_0 q7_1 q7_2 q7_3 q7_4 q7_5 hL7_0 hL7_1 hL7_2 hL7_3 hL7_4 hL7_5 bw7
  go_wp2_with fail
  refine (delta_All.calls k 2 1 (some ⟨w6.heap.size + 1, 0, none⟩) 1 [[0]] (some ⟨w6.heap.size + 2, 0, none⟩) 2 [0, 0] (some ⟨w6.heap.size + 5, 0, none⟩) 2 [[1], [1]] [] 2 _ H_hL7_1.out (Nat.le_refl _) H_hL7_2.out (Nat.le_refl _) H_hL7_5.out (Nat.le_refl _) H4.out).mono ?_
  rintro en w8 ⟨v1, rfl, ho, hb⟩
  have hbn := (below_step H_bw7.out hb)
  replace Fd := Lib.hid (Kd.C_below Fd.out hbn)
  replace Fp := Lib.hid (Kd.C_below Fp.out hbn)
  replace Fq := Lib.hid (Kd.C_below Fq.out hbn)
  replace HB := Lib.hid (below_step HB.out hbn)
  obtain ⟨Ax, cx, rfl⟩ := Kd.S_slice ho
  have Fx := Lib.hid (Kd.S_reads' ho).2.2
  have Gx := Lib.hid (Kd.S_reads' ho).2.1
  clear ho
  clear hb hbn
  clear H_hL7_0 H_hL7_1 H_hL7_2 H_hL7_3 H_hL7_4 H_hL7_5
  clear H_bw7
  have hN : Kd.C (Kd.int .u8) w8 none 0 ([] : List Int) := ⟨rfl, by decide, fun z => absurd z (by decide)⟩
  go_wp2_with fail
  refine (delta_Of.calls k none 0 [] none 0 [] [] 40 _ hN (Nat.le_refl _) hN (Nat.le_refl _) H5.out).mono ?_
  rintro en w10 ⟨v1, rfl, ho, hb⟩
  have hbn := hb
  replace Fd := Lib.hid (Kd.C_below Fd.out hbn)
  replace Fp := Lib.hid (Kd.C_below Fp.out hbn)
  replace Fq := Lib.hid (Kd.C_below Fq.out hbn)
  replace Fx := Lib.hid (Kd.C_below Fx.out hbn)
  replace HB := Lib.hid (below_step HB.out hbn)
  obtain ⟨Ay, cy, rfl⟩ := Kd.R_slice ho
  have Fy := Lib.hid (Kd.R_reads' ho).2.2
  have Gy := Lib.hid (Kd.R_reads' ho).2.1
  clear ho
  clear hb hbn
  obtain ⟨adp, Bp, ep, rp, hxp, -, hrp⟩ := at_L1 Fp.out 0 (by decide) (by decide)
  subst rp
  obtain ⟨bdp, sp, hyp⟩ := Kd.at_int hrp 0 (by decide) (by decide)
  subst sp
  have hzp : (bdp.add (0 : Int).toNat) = bdp := by cases bdp; simp [Addr.add]
  rw [hzp] at hyp
  have hup : (adp.add (0 : Int).toNat) = adp := by cases adp; simp [Addr.add]
  rw [hup] at hxp
  clear hrp hzp hup
  have hxp' : w10.cell? adp = some (.slice (some bdp) 1 ep) := hxp
  have hyp' : w10.cell? bdp = some (.int .u8 122) := hyp
  clear hxp hyp
  obtain ⟨adq, Bq, eq, rq, hxq, -, hrq⟩ := at_L1 Fq.out 0 (by decide) (by decide)
  subst rq
  obtain ⟨bdq, sq, hyq⟩ := Kd.at_int hrq 0 (by decide) (by decide)
  subst sq
  have hzq : (bdq.add (0 : Int).toNat) = bdq := by cases bdq; simp [Addr.add]
  rw [hzq] at hyq
  have huq : (adq.add (0 : Int).toNat) = adq := by cases adq; simp [Addr.add]
  rw [huq] at hxq
  clear hrq hzq huq
  have hxq' : w10.cell? adq = some (.slice (some bdq) 1 eq) := hxq
  have hyq' : w10.cell? bdq = some (.int .u8 122) := hyq
  clear hxq hyq
  obtain ⟨add, sd, hd0⟩ := Kd.at_int Fd.out 0 (by decide) (by decide)
  subst sd
  obtain ⟨add', sd, hd1⟩ := Kd.at_int Fd.out 1 (by decide) (by decide)
  injection sd with sd
  subst sd
  have hud : (add.add (0 : Int).toNat) = add := by cases add; simp [Addr.add]
  rw [hud] at hd0
  have hd0' : w10.cell? add = some (.int .u8 2) := hd0
  have hd1' : w10.cell? ⟨add.block, add.off + 1, none⟩ = some (.int .u8 0) := hd1
  clear hd0 hd1 hud
  go_wp2_with fail
  go_ret
  exact ⟨by first | rfl | simp, HB.out⟩

end Go.Proofs.Ytmmbojeikppinaa.PE
