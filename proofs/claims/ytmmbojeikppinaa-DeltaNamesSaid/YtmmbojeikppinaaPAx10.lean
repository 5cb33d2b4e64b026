-- written by the session's own program (wip/prt.py) over the kit's print: not print.sh's own text
import Derived.Test.YtmmbojeikppinaaPAx0
import Derived.Test.YtmmbojeikppinaaCdLit
import Derived.Test.YtmmbojeikppinaaPAx8
import Derived.Test.YtmmbojeikppinaaPAx9
namespace Go.Proofs.Ytmmbojeikppinaa.PA
open Go.RowKit Go.Proofs.YtmmbojeikppinaaW.PrintWords Go.Proofs.YtmmbojeikppinaaW.PrintLast Go.Proofs.YtmmbojeikppinaaW.PrintMore
attribute [local go_sem] max2_int min2_int max_two min_two max_three min_three max_four min_four   -- for this text's walks alone
set_option linter.unusedVariables false
set_option linter.unusedSimpArgs false

/-! ### twoslotlaw05_DeltaNames: function 3 -/
def twoslotlaw05_DeltaNames.ok (k : Nat) (L M : List Int) : Prop := twoslotlaw05_alive.f k = some true ∧ delta_Of.f k L L = some (L, 0) ∧ delta_Of.f k M M = some ([], 40) ∧ delta_Parity.f k 13 1 [] (-1) [] = some ([], 2) ∧ delta_Parity.f k 2 5 [] (-1) [] = some ([], 2) ∧ delta_Parity.f k 2 1 [] (-1) [] = some ([], 40) ∧ delta_Parity.f k 2 1 [[1]] (-1) [] = some ([], 2) ∧ delta_Parity.f k 2 1 [[1]] 0 [] = some ([], 40) ∧ delta_Parity.f k 2 1 [M] (-1) M = some ([], 40) ∧ delta_All.f k 2 0 [] [0, 1, 0] [] = some ([], 2) ∧ delta_All.f k 2 0 [] [0, 1] [[1], [1, 2]] = some ([], 40) ∧ delta_All.f k 2 0 [] [0, 1] [[1], [2]] = some ([], 0)
def twoslotlaw05_DeltaNames.Pure : Prop := ∃ k, twoslotlaw05_DeltaNames.ok k (List.replicate 65536 0) (List.replicate 65537 0)
set_option maxHeartbeats 8000000 in
set_option maxRecDepth 100000 in
theorem twoslotlaw05_DeltaNames.calls (k : Nat) (w : World) (h : twoslotlaw05_DeltaNames.ok k (List.replicate 65536 0) (List.replicate 65537 0)) : Calls Try.prog 3 #[] w fun e w' => e = .returned (.bool true) ∧ Below w.heap.size w w' := by
  obtain ⟨L, hL⟩ : ∃ L : List Int, L = List.replicate 65536 0 := ⟨_, rfl⟩
  obtain ⟨M, hM⟩ : ∃ M : List Int, M = List.replicate 65537 0 := ⟨_, rfl⟩
  rw [← hL, ← hM] at h
  have NL : (L.length : Int) = 65536 := by rw [hL, List.length_replicate]; rfl
  have NM : M.length ≤ 100000 := by rw [hM, List.length_replicate]; decide
  have HNM := Lib.hid NM
  have HL := Lib.hid hL
  have HM := Lib.hid hM
  clear hL hM NM
  obtain ⟨h0, h1, h2, h3, h4, h5, h6, h7, h8, h9, h10, h11⟩ := h
  have H0 := Lib.hid h0
  have H1 := Lib.hid h1
  have H2 := Lib.hid h2
  have H3 := Lib.hid h3
  have H4 := Lib.hid h4
  have H5 := Lib.hid h5
  have H6 := Lib.hid h6
  have H7 := Lib.hid h7
  have H8 := Lib.hid h8
  have H9 := Lib.hid h9
  have H10 := Lib.hid h10
  have H11 := Lib.hid h11
  clear h0 h1 h2 h3 h4 h5 h6 h7 h8 h9 h10 h11
  have HB := Lib.hid (Below.refl w.heap.size w)
  go_enter Try.func3, Try.ntmps3
  go_wp2_with fail
  refine (twoslotlaw05_alive.calls k true _ H0.out).mono ?_
  rintro en w1 ⟨rfl, hb⟩
  replace HB := Lib.hid (below_step HB.out hb)
  clear hb
  go_wp2_with (first | ((with_reducible refine gate_dst (N := 29) rfl ?_); (try (refine gate_guard (by rfl) ?_; dsimp only)); refine Kd.R_make (Kd.int .u8) _ 5 rfl (N := 29) rfl 23 _ _ rfl 65536 rfl rfl Try.underlying23 (.int .u8 0) 1 info5 rfl (by decide) (by omega) 0 (ok := fun _ => True) (okp := fun _ => True) rfl (fun _ hk => hk) trivial (by omega) (by omega) (Below.refl _ _) (Nat.le_refl _) ?_; intro vL wL hoL hb hg_ hnew_; clear hg_ hnew_; (first | rw [← HL.out] at hoL | (simp only [Int.reduceToNat] at hoL; rw [← HL.out] at hoL)); obtain ⟨AL, cL, eL⟩ := Kd.R_slice hoL; subst eL; have FL := Lib.hid (Kd.R_reads' hoL).2.2; have GL := Lib.hid (Kd.R_reads' hoL).2.1; clear hoL; replace HB := Lib.hid (below_step HB.out hb); clear hb) | ((with_reducible refine gate_dst (N := 30) rfl ?_); (try (refine gate_guard (by rfl) ?_; dsimp only)); refine Kd.R_make (Kd.int .u8) _ 5 rfl (N := 30) rfl 23 _ _ rfl 65537 rfl rfl Try.underlying23 (.int .u8 0) 1 info5 rfl (by decide) (by omega) 0 (ok := fun _ => True) (okp := fun _ => True) rfl (fun _ hk => hk) trivial (by omega) (by omega) (Below.refl _ _) (Nat.le_refl _) ?_; intro vM wM hoM hb hg_ hnew_; clear hg_ hnew_; (first | rw [← HM.out] at hoM | (simp only [Int.reduceToNat] at hoM; rw [← HM.out] at hoM)); obtain ⟨AM, cM, eM⟩ := Kd.R_slice hoM; subst eM; have FM := Lib.hid (Kd.R_reads' hoM).2.2; have GM := Lib.hid (Kd.R_reads' hoM).2.1; clear hoM; replace FL := Lib.hid (Kd.C_below FL.out hb); replace HB := Lib.hid (below_step HB.out hb); clear hb))
  refine (delta_Of.calls k AL cL L AL cL L L 0 _ FL.out GL.out FL.out GL.out H1.out).mono ?_
  rintro en w1 ⟨v1, rfl, ho, hb⟩
  have hbn := hb
  replace FL := Lib.hid (Kd.C_below FL.out hbn)
  replace FM := Lib.hid (Kd.C_below FM.out hbn)
  replace HB := Lib.hid (below_step HB.out hbn)
  obtain ⟨Ad, cd, rfl⟩ := Kd.R_slice ho
  have Fd := Lib.hid (Kd.R_reads' ho).2.2
  have Gd := Lib.hid (Kd.R_reads' ho).2.1
  clear ho
  clear hb hbn
  go_wp2_with fail
  refine (delta_Of.calls k AM cM M AM cM M [] 40 _ FM.out GM.out FM.out GM.out H2.out).mono ?_
  rintro en w2 ⟨v1, rfl, ho, hb⟩
  have hbn := hb
  replace FL := Lib.hid (Kd.C_below FL.out hbn)
  replace FM := Lib.hid (Kd.C_below FM.out hbn)
  replace Fd := Lib.hid (Kd.C_below Fd.out hbn)
  replace HB := Lib.hid (below_step HB.out hbn)
  obtain ⟨Ax, cx, rfl⟩ := Kd.R_slice ho
  have Fx := Lib.hid (Kd.R_reads' ho).2.2
  have Gx := Lib.hid (Kd.R_reads' ho).2.1
  clear ho
  clear hb hbn
  go_wp2_with fail
  refine (delta_Parity.calls k 13 1 none 0 [] (-1) none 0 [] [] 2 _ (Kd.C_nil _ _) (Nat.le_refl _) (Kd.C_nil _ _) (Nat.le_refl _) H3.out).mono ?_
  rintro en w3 ⟨v1, rfl, -, hb⟩
  have hbn := hb
  replace FL := Lib.hid (Kd.C_below FL.out hbn)
  replace FM := Lib.hid (Kd.C_below FM.out hbn)
  replace Fd := Lib.hid (Kd.C_below Fd.out hbn)
  replace Fx := Lib.hid (Kd.C_below Fx.out hbn)
  replace HB := Lib.hid (below_step HB.out hbn)
  clear hb hbn
  go_wp2_with fail
  refine (delta_Parity.calls k 2 5 none 0 [] (-1) none 0 [] [] 2 _ (Kd.C_nil _ _) (Nat.le_refl _) (Kd.C_nil _ _) (Nat.le_refl _) H4.out).mono ?_
  rintro en w4 ⟨v1, rfl, -, hb⟩
  have hbn := hb
  replace FL := Lib.hid (Kd.C_below FL.out hbn)
  replace FM := Lib.hid (Kd.C_below FM.out hbn)
  replace Fd := Lib.hid (Kd.C_below Fd.out hbn)
  replace Fx := Lib.hid (Kd.C_below Fx.out hbn)
  replace HB := Lib.hid (below_step HB.out hbn)
  clear hb hbn
  go_wp2_with fail
  refine (delta_Parity.calls k 2 1 none 0 [] (-1) none 0 [] [] 40 _ (Kd.C_nil _ _) (Nat.le_refl _) (Kd.C_nil _ _) (Nat.le_refl _) H5.out).mono ?_
  rintro en w5 ⟨v1, rfl, -, hb⟩
  have hbn := hb
  replace FL := Lib.hid (Kd.C_below FL.out hbn)
  replace FM := Lib.hid (Kd.C_below FM.out hbn)
  replace Fd := Lib.hid (Kd.C_below Fd.out hbn)
  replace Fx := Lib.hid (Kd.C_below Fx.out hbn)
  replace HB := Lib.hid (below_step HB.out hbn)
  clear hb hbn
  have bw6 := below_alloc (below_alloc (Below.refl w5.heap.size w5) (.cells #[.int .u8 1] 5)) (.cells #[.slice (some ⟨w5.heap.size, 0, none⟩) 1 1] 23)
  have q6_0 : ((w5.alloc (.cells #[.int .u8 1] 5)).alloc (.cells #[.slice (some ⟨w5.heap.size, 0, none⟩) 1 1] 23)).heap[w5.heap.size]? = some (.cells #[.int .u8 1] 5) := blk_alloc (heap_alloc_at _ _ (by first | rfl | simp)) _
  have hL6_0 : Kd.C (Kd.int .u8) ((w5.alloc (.cells #[.int .u8 1] 5)).alloc (.cells #[.slice (some ⟨w5.heap.size, 0, none⟩) 1 1] 23)) (some ⟨w5.heap.size, 0, none⟩) 1 [1] := lit_C (k := .u8) (xs := [1]) q6_0 (by simp [encs]) (by decide)
  have q6_1 : ((w5.alloc (.cells #[.int .u8 1] 5)).alloc (.cells #[.slice (some ⟨w5.heap.size, 0, none⟩) 1 1] 23)).heap[w5.heap.size + 1]? = some (.cells #[.slice (some ⟨w5.heap.size, 0, none⟩) 1 1] 23) := heap_alloc_at _ _ (by first | rfl | simp)
  have hL6_1 : Kd.C (Kd.slice 5 (Kd.int .u8)) ((w5.alloc (.cells #[.int .u8 1] 5)).alloc (.cells #[.slice (some ⟨w5.heap.size, 0, none⟩) 1 1] 23)) (some ⟨w5.heap.size + 1, 0, none⟩) 1 [[1]] := lit_rows (ys := [[1]]) q6_1 rfl (RowsC.one (RowC.mk hL6_0 (Nat.le_refl _))) (by simp)
  have H_hL6_0 := Lib.hid hL6_0
  have H_hL6_1 := Lib.hid hL6_1
  have H_bw6 := Lib.hid bw6
  clear q6_0 q6_1 hL6_0 hL6_1 bw6
  go_wp2_with fail
  refine (delta_Parity.calls k 2 1 (some ⟨w5.heap.size + 1, 0, none⟩) 1 [[1]] (-1) none 0 [] [] 2 _ H_hL6_1.out (Nat.le_refl _) (Kd.C_nil _ _) (Nat.le_refl _) H6.out).mono ?_
  rintro en w7 ⟨v1, rfl, -, hb⟩
  have hbn := (below_step H_bw6.out hb)
  replace FL := Lib.hid (Kd.C_below FL.out hbn)
  replace FM := Lib.hid (Kd.C_below FM.out hbn)
  replace Fd := Lib.hid (Kd.C_below Fd.out hbn)
  replace Fx := Lib.hid (Kd.C_below Fx.out hbn)
  replace HB := Lib.hid (below_step HB.out hbn)
  clear hb hbn
  clear H_hL6_0 H_hL6_1
  clear H_bw6
  have bw8 := below_alloc (below_alloc (Below.refl w7.heap.size w7) (.cells #[.int .u8 1] 5)) (.cells #[.slice (some ⟨w7.heap.size, 0, none⟩) 1 1] 23)
  have q8_0 : ((w7.alloc (.cells #[.int .u8 1] 5)).alloc (.cells #[.slice (some ⟨w7.heap.size, 0, none⟩) 1 1] 23)).heap[w7.heap.size]? = some (.cells #[.int .u8 1] 5) := blk_alloc (heap_alloc_at _ _ (by first | rfl | simp)) _
  have hL8_0 : Kd.C (Kd.int .u8) ((w7.alloc (.cells #[.int .u8 1] 5)).alloc (.cells #[.slice (some ⟨w7.heap.size, 0, none⟩) 1 1] 23)) (some ⟨w7.heap.size, 0, none⟩) 1 [1] := lit_C (k := .u8) (xs := [1]) q8_0 (by simp [encs]) (by decide)
  have q8_1 : ((w7.alloc (.cells #[.int .u8 1] 5)).alloc (.cells #[.slice (some ⟨w7.heap.size, 0, none⟩) 1 1] 23)).heap[w7.heap.size + 1]? = some (.cells #[.slice (some ⟨w7.heap.size, 0, none⟩) 1 1] 23) := heap_alloc_at _ _ (by first | rfl | simp)
  have hL8_1 : Kd.C (Kd.slice 5 (Kd.int .u8)) ((w7.alloc (.cells #[.int .u8 1] 5)).alloc (.cells #[.slice (some ⟨w7.heap.size, 0, none⟩) 1 1] 23)) (some ⟨w7.heap.size + 1, 0, none⟩) 1 [[1]] := lit_rows (ys := [[1]]) q8_1 rfl (RowsC.one (RowC.mk hL8_0 (Nat.le_refl _))) (by simp)
  have H_hL8_0 := Lib.hid hL8_0
  have H_hL8_1 := Lib.hid hL8_1
  have H_bw8 := Lib.hid bw8
  clear q8_0 q8_1 hL8_0 hL8_1 bw8
  go_wp2_with fail
  refine (delta_Parity.calls k 2 1 (some ⟨w7.heap.size + 1, 0, none⟩) 1 [[1]] 0 none 0 [] [] 40 _ H_hL8_1.out (Nat.le_refl _) (Kd.C_nil _ _) (Nat.le_refl _) H7.out).mono ?_
  rintro en w9 ⟨v1, rfl, -, hb⟩
  have hbn := (below_step H_bw8.out hb)
  replace FL := Lib.hid (Kd.C_below FL.out hbn)
  replace FM := Lib.hid (Kd.C_below FM.out hbn)
  replace Fd := Lib.hid (Kd.C_below Fd.out hbn)
  replace Fx := Lib.hid (Kd.C_below Fx.out hbn)
  replace HB := Lib.hid (below_step HB.out hbn)
  clear hb hbn
  clear H_hL8_0 H_hL8_1
  clear H_bw8
  have bw10 := below_alloc (Below.refl w9.heap.size w9) (.cells #[.slice AM M.length cM] 23)
  have q10_0 : (w9.alloc (.cells #[.slice AM M.length cM] 23)).heap[w9.heap.size]? = some (.cells #[.slice AM M.length cM] 23) := heap_alloc_at _ _ (by first | rfl | simp)
  have hL10_0 : Kd.C (Kd.slice 5 (Kd.int .u8)) (w9.alloc (.cells #[.slice AM M.length cM] 23)) (some ⟨w9.heap.size, 0, none⟩) 1 [M] := lit_rows (ys := [M]) q10_0 rfl (RowsC.one (RowC.mk (Kd.C_below FM.out bw10) GM.out)) (by simp)
  have H_hL10_0 := Lib.hid hL10_0
  have H_bw10 := Lib.hid bw10
  clear q10_0 hL10_0 bw10
  go_wp2_with fail
  refine (delta_Parity.calls k 2 1 (some ⟨w9.heap.size, 0, none⟩) 1 [M] (-1) AM cM M [] 40 _ H_hL10_0.out (Nat.le_refl _) (Kd.C_below FM.out H_bw10.out) GM.out H8.out).mono ?_
  rintro en w11 ⟨v1, rfl, -, hb⟩
  have hbn := (below_step H_bw10.out hb)
  replace FL := Lib.hid (Kd.C_below FL.out hbn)
  replace FM := Lib.hid (Kd.C_below FM.out hbn)
  replace Fd := Lib.hid (Kd.C_below Fd.out hbn)
  replace Fx := Lib.hid (Kd.C_below Fx.out hbn)
  replace HB := Lib.hid (below_step HB.out hbn)
  clear hb hbn
  clear H_hL10_0
  clear H_bw10
  have bw12 := below_alloc (Below.refl w11.heap.size w11) (.cells #[.int .i64 0, .int .i64 1, .int .i64 0] 3)
  have q12_0 : (w11.alloc (.cells #[.int .i64 0, .int .i64 1, .int .i64 0] 3)).heap[w11.heap.size]? = some (.cells #[.int .i64 0, .int .i64 1, .int .i64 0] 3) := heap_alloc_at _ _ (by first | rfl | simp)
  have hL12_0 : Kd.C (Kd.int .i64) (w11.alloc (.cells #[.int .i64 0, .int .i64 1, .int .i64 0] 3)) (some ⟨w11.heap.size, 0, none⟩) 3 [0, 1, 0] := lit_C (k := .i64) (xs := [0, 1, 0]) q12_0 (by simp [encs]) (by decide)
  have H_hL12_0 := Lib.hid hL12_0
  have H_bw12 := Lib.hid bw12
  clear q12_0 hL12_0 bw12
  go_wp2_with fail
  refine (delta_All.calls k 2 0 none 0 [] (some ⟨w11.heap.size, 0, none⟩) 3 [0, 1, 0] none 0 [] [] 2 _ (Kd.C_nil _ _) (Nat.le_refl _) H_hL12_0.out (Nat.le_refl _) (Kd.C_nil _ _) (Nat.le_refl _) H9.out).mono ?_
  rintro en w13 ⟨v1, rfl, -, hb⟩
  have hbn := (below_step H_bw12.out hb)
  replace FL := Lib.hid (Kd.C_below FL.out hbn)
  replace FM := Lib.hid (Kd.C_below FM.out hbn)
  replace Fd := Lib.hid (Kd.C_below Fd.out hbn)
  replace Fx := Lib.hid (Kd.C_below Fx.out hbn)
  replace HB := Lib.hid (below_step HB.out hbn)
  clear hb hbn
  clear H_hL12_0
  clear H_bw12
  have bw14 := below_alloc (below_alloc (below_alloc (below_alloc (Below.refl w13.heap.size w13) (.cells #[.int .i64 0, .int .i64 1] 3)) (.cells #[.int .u8 1] 5)) (.cells #[.int .u8 1, .int .u8 2] 5)) (.cells #[.slice (some ⟨w13.heap.size + 1, 0, none⟩) 1 1, .slice (some ⟨w13.heap.size + 2, 0, none⟩) 2 2] 23)
  have q14_0 : ((((w13.alloc (.cells #[.int .i64 0, .int .i64 1] 3)).alloc (.cells #[.int .u8 1] 5)).alloc (.cells #[.int .u8 1, .int .u8 2] 5)).alloc (.cells #[.slice (some ⟨w13.heap.size + 1, 0, none⟩) 1 1, .slice (some ⟨w13.heap.size + 2, 0, none⟩) 2 2] 23)).heap[w13.heap.size]? = some (.cells #[.int .i64 0, .int .i64 1] 3) := blk_alloc (blk_alloc (blk_alloc (heap_alloc_at _ _ (by first | rfl | simp)) _) _) _
  have hL14_0 : Kd.C (Kd.int .i64) ((((w13.alloc (.cells #[.int .i64 0, .int .i64 1] 3)).alloc (.cells #[.int .u8 1] 5)).alloc (.cells #[.int .u8 1, .int .u8 2] 5)).alloc (.cells #[.slice (some ⟨w13.heap.size + 1, 0, none⟩) 1 1, .slice (some ⟨w13.heap.size + 2, 0, none⟩) 2 2] 23)) (some ⟨w13.heap.size, 0, none⟩) 2 [0, 1] := lit_C (k := .i64) (xs := [0, 1]) q14_0 (by simp [encs]) (by decide)
  have q14_1 : ((((w13.alloc (.cells #[.int .i64 0, .int .i64 1] 3)).alloc (.cells #[.int .u8 1] 5)).alloc (.cells #[.int .u8 1, .int .u8 2] 5)).alloc (.cells #[.slice (some ⟨w13.heap.size + 1, 0, none⟩) 1 1, .slice (some ⟨w13.heap.size + 2, 0, none⟩) 2 2] 23)).heap[w13.heap.size + 1]? = some (.cells #[.int .u8 1] 5) := blk_alloc (blk_alloc (heap_alloc_at _ _ (by first | rfl | simp)) _) _
  have hL14_1 : Kd.C (Kd.int .u8) ((((w13.alloc (.cells #[.int .i64 0, .int .i64 1] 3)).alloc (.cells #[.int .u8 1] 5)).alloc (.cells #[.int .u8 1, .int .u8 2] 5)).alloc (.cells #[.slice (some ⟨w13.heap.size + 1, 0, none⟩) 1 1, .slice (some ⟨w13.heap.size + 2, 0, none⟩) 2 2] 23)) (some ⟨w13.heap.size + 1, 0, none⟩) 1 [1] := lit_C (k := .u8) (xs := [1]) q14_1 (by simp [encs]) (by decide)
  have q14_2 : ((((w13.alloc (.cells #[.int .i64 0, .int .i64 1] 3)).alloc (.cells #[.int .u8 1] 5)).alloc (.cells #[.int .u8 1, .int .u8 2] 5)).alloc (.cells #[.slice (some ⟨w13.heap.size + 1, 0, none⟩) 1 1, .slice (some ⟨w13.heap.size + 2, 0, none⟩) 2 2] 23)).heap[w13.heap.size + 2]? = some (.cells #[.int .u8 1, .int .u8 2] 5) := blk_alloc (heap_alloc_at _ _ (by first | rfl | simp)) _
  have hL14_2 : Kd.C (Kd.int .u8) ((((w13.alloc (.cells #[.int .i64 0, .int .i64 1] 3)).alloc (.cells #[.int .u8 1] 5)).alloc (.cells #[.int .u8 1, .int .u8 2] 5)).alloc (.cells #[.slice (some ⟨w13.heap.size + 1, 0, none⟩) 1 1, .slice (some ⟨w13.heap.size + 2, 0, none⟩) 2 2] 23)) (some ⟨w13.heap.size + 2, 0, none⟩) 2 [1, 2] := lit_C (k := .u8) (xs := [1, 2]) q14_2 (by simp [encs]) (by decide)
  have q14_3 : ((((w13.alloc (.cells #[.int .i64 0, .int .i64 1] 3)).alloc (.cells #[.int .u8 1] 5)).alloc (.cells #[.int .u8 1, .int .u8 2] 5)).alloc (.cells #[.slice (some ⟨w13.heap.size + 1, 0, none⟩) 1 1, .slice (some ⟨w13.heap.size + 2, 0, none⟩) 2 2] 23)).heap[w13.heap.size + 3]? = some (.cells #[.slice (some ⟨w13.heap.size + 1, 0, none⟩) 1 1, .slice (some ⟨w13.heap.size + 2, 0, none⟩) 2 2] 23) := heap_alloc_at _ _ (by first | rfl | simp)
  have hL14_3 : Kd.C (Kd.slice 5 (Kd.int .u8)) ((((w13.alloc (.cells #[.int .i64 0, .int .i64 1] 3)).alloc (.cells #[.int .u8 1] 5)).alloc (.cells #[.int .u8 1, .int .u8 2] 5)).alloc (.cells #[.slice (some ⟨w13.heap.size + 1, 0, none⟩) 1 1, .slice (some ⟨w13.heap.size + 2, 0, none⟩) 2 2] 23)) (some ⟨w13.heap.size + 3, 0, none⟩) 2 [[1], [1, 2]] := lit_rows (ys := [[1], [1, 2]]) q14_3 rfl ((RowsC.one (RowC.mk hL14_1 (Nat.le_refl _))).append (RowsC.one (RowC.mk hL14_2 (Nat.le_refl _)))) (by simp)
  have H_hL14_0 := Lib.hid hL14_0
  have H_hL14_1 := Lib.hid hL14_1
  have H_hL14_2 := Lib.hid hL14_2
  have H_hL14_3 := Lib.hid hL14_3
  have H_bw14 := Lib.hid bw14
  clear q14_0 q14_1 q14_2 q14_3 hL14_0 hL14_1 hL14_2 hL14_3 bw14
  go_wp2_with fail
  refine (delta_All.calls k 2 0 none 0 [] (some ⟨w13.heap.size, 0, none⟩) 2 [0, 1] (some ⟨w13.heap.size + 3, 0, none⟩) 2 [[1], [1, 2]] [] 40 _ (Kd.C_nil _ _) (Nat.le_refl _) H_hL14_0.out (Nat.le_refl _) H_hL14_3.out (Nat.le_refl _) H10.out).mono ?_
  rintro en w15 ⟨v1, rfl, -, hb⟩
  have hbn := (below_step H_bw14.out hb)
  replace FL := Lib.hid (Kd.C_below FL.out hbn)
  replace FM := Lib.hid (Kd.C_below FM.out hbn)
  replace Fd := Lib.hid (Kd.C_below Fd.out hbn)
  replace Fx := Lib.hid (Kd.C_below Fx.out hbn)
  replace HB := Lib.hid (below_step HB.out hbn)
  clear hb hbn
  clear H_hL14_0 H_hL14_1 H_hL14_2 H_hL14_3
  clear H_bw14
  have bw16 := below_alloc (below_alloc (below_alloc (below_alloc (Below.refl w15.heap.size w15) (.cells #[.int .i64 0, .int .i64 1] 3)) (.cells #[.int .u8 1] 5)) (.cells #[.int .u8 2] 5)) (.cells #[.slice (some ⟨w15.heap.size + 1, 0, none⟩) 1 1, .slice (some ⟨w15.heap.size + 2, 0, none⟩) 1 1] 23)
  have q16_0 : ((((w15.alloc (.cells #[.int .i64 0, .int .i64 1] 3)).alloc (.cells #[.int .u8 1] 5)).alloc (.cells #[.int .u8 2] 5)).alloc (.cells #[.slice (some ⟨w15.heap.size + 1, 0, none⟩) 1 1, .slice (some ⟨w15.heap.size + 2, 0, none⟩) 1 1] 23)).heap[w15.heap.size]? = some (.cells #[.int .i64 0, .int .i64 1] 3) := blk_alloc (blk_alloc (blk_alloc (heap_alloc_at _ _ (by first | rfl | simp)) _) _) _
  have hL16_0 : Kd.C (Kd.int .i64) ((((w15.alloc (.cells #[.int .i64 0, .int .i64 1] 3)).alloc (.cells #[.int .u8 1] 5)).alloc (.cells #[.int .u8 2] 5)).alloc (.cells #[.slice (some ⟨w15.heap.size + 1, 0, none⟩) 1 1, .slice (some ⟨w15.heap.size + 2, 0, none⟩) 1 1] 23)) (some ⟨w15.heap.size, 0, none⟩) 2 [0, 1] := lit_C (k := .i64) (xs := [0, 1]) q16_0 (by simp [encs]) (by decide)
  have q16_1 : ((((w15.alloc (.cells #[.int .i64 0, .int .i64 1] 3)).alloc (.cells #[.int .u8 1] 5)).alloc (.cells #[.int .u8 2] 5)).alloc (.cells #[.slice (some ⟨w15.heap.size + 1, 0, none⟩) 1 1, .slice (some ⟨w15.heap.size + 2, 0, none⟩) 1 1] 23)).heap[w15.heap.size + 1]? = some (.cells #[.int .u8 1] 5) := blk_alloc (blk_alloc (heap_alloc_at _ _ (by first | rfl | simp)) _) _
  have hL16_1 : Kd.C (Kd.int .u8) ((((w15.alloc (.cells #[.int .i64 0, .int .i64 1] 3)).alloc (.cells #[.int .u8 1] 5)).alloc (.cells #[.int .u8 2] 5)).alloc (.cells #[.slice (some ⟨w15.heap.size + 1, 0, none⟩) 1 1, .slice (some ⟨w15.heap.size + 2, 0, none⟩) 1 1] 23)) (some ⟨w15.heap.size + 1, 0, none⟩) 1 [1] := lit_C (k := .u8) (xs := [1]) q16_1 (by simp [encs]) (by decide)
  have q16_2 : ((((w15.alloc (.cells #[.int .i64 0, .int .i64 1] 3)).alloc (.cells #[.int .u8 1] 5)).alloc (.cells #[.int .u8 2] 5)).alloc (.cells #[.slice (some ⟨w15.heap.size + 1, 0, none⟩) 1 1, .slice (some ⟨w15.heap.size + 2, 0, none⟩) 1 1] 23)).heap[w15.heap.size + 2]? = some (.cells #[.int .u8 2] 5) := blk_alloc (heap_alloc_at _ _ (by first | rfl | simp)) _
  have hL16_2 : Kd.C (Kd.int .u8) ((((w15.alloc (.cells #[.int .i64 0, .int .i64 1] 3)).alloc (.cells #[.int .u8 1] 5)).alloc (.cells #[.int .u8 2] 5)).alloc (.cells #[.slice (some ⟨w15.heap.size + 1, 0, none⟩) 1 1, .slice (some ⟨w15.heap.size + 2, 0, none⟩) 1 1] 23)) (some ⟨w15.heap.size + 2, 0, none⟩) 1 [2] := lit_C (k := .u8) (xs := [2]) q16_2 (by simp [encs]) (by decide)
  have q16_3 : ((((w15.alloc (.cells #[.int .i64 0, .int .i64 1] 3)).alloc (.cells #[.int .u8 1] 5)).alloc (.cells #[.int .u8 2] 5)).alloc (.cells #[.slice (some ⟨w15.heap.size + 1, 0, none⟩) 1 1, .slice (some ⟨w15.heap.size + 2, 0, none⟩) 1 1] 23)).heap[w15.heap.size + 3]? = some (.cells #[.slice (some ⟨w15.heap.size + 1, 0, none⟩) 1 1, .slice (some ⟨w15.heap.size + 2, 0, none⟩) 1 1] 23) := heap_alloc_at _ _ (by first | rfl | simp)
  have hL16_3 : Kd.C (Kd.slice 5 (Kd.int .u8)) ((((w15.alloc (.cells #[.int .i64 0, .int .i64 1] 3)).alloc (.cells #[.int .u8 1] 5)).alloc (.cells #[.int .u8 2] 5)).alloc (.cells #[.slice (some ⟨w15.heap.size + 1, 0, none⟩) 1 1, .slice (some ⟨w15.heap.size + 2, 0, none⟩) 1 1] 23)) (some ⟨w15.heap.size + 3, 0, none⟩) 2 [[1], [2]] := lit_rows (ys := [[1], [2]]) q16_3 rfl ((RowsC.one (RowC.mk hL16_1 (Nat.le_refl _))).append (RowsC.one (RowC.mk hL16_2 (Nat.le_refl _)))) (by simp)
  have H_hL16_0 := Lib.hid hL16_0
  have H_hL16_1 := Lib.hid hL16_1
  have H_hL16_2 := Lib.hid hL16_2
  have H_hL16_3 := Lib.hid hL16_3
  have H_bw16 := Lib.hid bw16
  clear q16_0 q16_1 q16_2 q16_3 hL16_0 hL16_1 hL16_2 hL16_3 bw16
  go_wp2_with fail
  refine (delta_All.calls k 2 0 none 0 [] (some ⟨w15.heap.size, 0, none⟩) 2 [0, 1] (some ⟨w15.heap.size + 3, 0, none⟩) 2 [[1], [2]] [] 0 _ (Kd.C_nil _ _) (Nat.le_refl _) H_hL16_0.out (Nat.le_refl _) H_hL16_3.out (Nat.le_refl _) H11.out).mono ?_
  rintro en w17 ⟨v1, rfl, ho, hb⟩
  have hbn := (below_step H_bw16.out hb)
  replace FL := Lib.hid (Kd.C_below FL.out hbn)
  replace FM := Lib.hid (Kd.C_below FM.out hbn)
  replace Fd := Lib.hid (Kd.C_below Fd.out hbn)
  replace Fx := Lib.hid (Kd.C_below Fx.out hbn)
  replace HB := Lib.hid (below_step HB.out hbn)
  obtain ⟨Ap, cp, rfl⟩ := Kd.S_slice ho
  have Fp := Lib.hid (Kd.S_reads' ho).2.2
  have Gp := Lib.hid (Kd.S_reads' ho).2.1
  clear ho
  clear hb hbn
  clear H_hL16_0 H_hL16_1 H_hL16_2 H_hL16_3
  clear H_bw16
  have N1 : ((L.length : Int) == 65536) = true := by rw [NL]; rfl
  have N2 : ((L.length : Int) != 65536) = false := by rw [NL]; rfl
  go_wp2_with fail
  go_ret
  exact ⟨by first | rfl | simp, HB.out⟩
theorem twoslotlaw05_DeltaNames.walk (P : twoslotlaw05_DeltaNames.Pure)  (w : World)  :
    Calls Try.prog 3 #[] w fun e w' => e = .returned (.bool true) ∧ Below w.heap.size w w' := by
  obtain ⟨k, h⟩ := P
  exact twoslotlaw05_DeltaNames.calls k w h

end Go.Proofs.Ytmmbojeikppinaa.PA
