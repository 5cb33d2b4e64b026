-- written by the session's own program (wip/prt.py) over the kit's print: not print.sh's own text
import Derived.Test.YthhncoogmncdkaaPAx0
import Derived.Test.YthhncoogmncdkaaDEnc
import Derived.Test.YthhncoogmncdkaaCAlive
namespace Go.Proofs.Ythhncoogmncdkaa.PA
open Go.RowKit Go.Proofs.YthhncoogmncdkaaW.PrintWords Go.Proofs.YthhncoogmncdkaaW.PrintLast Go.Proofs.YthhncoogmncdkaaW.PrintMore
attribute [local go_sem] max2_int min2_int max_two min_two max_three min_three max_four min_four   -- for this text's walks alone
set_option linter.unusedVariables false
set_option linter.unusedSimpArgs false

/-! ### twoslotlaw04_CodecNames: function 3 -/
/-- the long slice, while it is filled -/
def twoslotlaw04_CodecNames.mid (N n : Nat) : List Int := (List.range N).map fun j => if j < n then (j : Int) % 256 else 0
theorem twoslotlaw04_CodecNames.mid_len (N n : Nat) : (twoslotlaw04_CodecNames.mid N n).length = N := by simp [twoslotlaw04_CodecNames.mid]
theorem twoslotlaw04_CodecNames.mid_zero (N : Nat) : List.replicate N 0 = twoslotlaw04_CodecNames.mid N 0 := by
  apply List.ext_getElem
  · simp [twoslotlaw04_CodecNames.mid_len]
  · intro i h1 h2
    simp [twoslotlaw04_CodecNames.mid]
theorem twoslotlaw04_CodecNames.mid_set {N n : Nat} (h : n < N) : (twoslotlaw04_CodecNames.mid N n).set n ((n : Int) % 256) = twoslotlaw04_CodecNames.mid N (n + 1) := by
  apply List.ext_getElem
  · simp [twoslotlaw04_CodecNames.mid_len]
  · intro i h1 h2
    rw [List.getElem_set]
    simp only [twoslotlaw04_CodecNames.mid, List.getElem_map, List.getElem_range]
    by_cases e : n = i
    · subst e; rw [if_pos rfl, if_pos (by omega)]
    · rw [if_neg e]
      by_cases h3 : i < n
      · rw [if_pos h3, if_pos (by omega)]
      · rw [if_neg h3, if_neg (by omega)]
def twoslotlaw04_CodecNames.ok (k : Nat) (L M : List Int) : Prop := twoslotlaw04_alive.f k = some true ∧ codec_Encode.f k 1 1 [L] = some ([L], 0) ∧ codec_Encode.f k 1 1 [M] = some ([], 40) ∧ codec_Encode.f k 1 5 [] = some ([], 2) ∧ codec_Encode.f k 13 0 [] = some ([], 2) ∧ codec_Encode.f k 1 0 [] = some ([], 40) ∧ codec_Decode.f k 1 (-1) [] = some ([], 2) ∧ codec_Decode.f k 1 1 [[], M] = some ([], 40) ∧ (∃ d, codec_Decode.f k 12 4 [[], [], [], [], [4], [5], [6], [7], [8], [9], [10], [11], [12], [13], [14], [15]] = some (d, 0) ∧ d.length = 16 ∧ rd_L1 d 15 = [15] ∧ rd_L1 d 4 = [4] ∧ codec_Verify.f k 12 4 d = some (true, 0)) ∧ codec_Verify.f k 0 0 [] = some (false, 2)
def twoslotlaw04_CodecNames.Pure : Prop := ∃ k, twoslotlaw04_CodecNames.ok k (twoslotlaw04_CodecNames.mid 65536 65536) (List.replicate 65537 0)
set_option maxHeartbeats 8000000 in
set_option maxRecDepth 100000 in
theorem twoslotlaw04_CodecNames.calls (k : Nat) (w : World) (h : twoslotlaw04_CodecNames.ok k (twoslotlaw04_CodecNames.mid 65536 65536) (List.replicate 65537 0)) : Calls Try.prog 3 #[] w fun e w' => e = .returned (.bool true) ∧ Below w.heap.size w w' := by
  obtain ⟨Z, hZ⟩ : ∃ Z : Nat, Z = 65536 := ⟨_, rfl⟩
  obtain ⟨L0, hL0⟩ : ∃ L : List Int, L = List.replicate 65536 0 := ⟨_, rfl⟩
  obtain ⟨M, hM⟩ : ∃ M : List Int, M = List.replicate 65537 0 := ⟨_, rfl⟩
  rw [← hM, ← hZ] at h
  have HZM := Lib.hid (show L0 = twoslotlaw04_CodecNames.mid Z 0 by rw [hL0, ← hZ]; exact twoslotlaw04_CodecNames.mid_zero Z)
  have NM : M.length ≤ 100000 := by rw [hM, List.length_replicate]; decide
  have HNM := Lib.hid NM
  have HL0 := Lib.hid hL0
  have HM := Lib.hid hM
  have HZ := Lib.hid hZ
  clear hL0 hM NM hZ
  obtain ⟨h0, h1, h2, h3, h4, h5, h6, h7, h8, h9⟩ := h
  have H0 := Lib.hid h0
  have H1 := Lib.hid h1
  have H2 := Lib.hid h2
  have H3 := Lib.hid h3
  have H4 := Lib.hid h4
  have H5 := Lib.hid h5
  have H6 := Lib.hid h6
  have H7 := Lib.hid h7
  have H8 := Lib.hid h8
  have H9 := Lib.hid h9
  clear h0 h1 h2 h3 h4 h5 h6 h7 h8 h9
  have HB := Lib.hid (Below.refl w.heap.size w)
  go_enter Try.func3, Try.ntmps3
  go_wp2_with fail
  refine (twoslotlaw04_alive.calls k true _ H0.out).mono ?_
  rintro en w1 ⟨rfl, hb⟩
  replace HB := Lib.hid (below_step HB.out hb)
  have HB1 := HB
  clear hb
  go_wp2_with (first | ((with_reducible refine gate_dst (N := 28) rfl ?_); (try (refine gate_guard (by rfl) ?_; dsimp only)); refine Kd.R_make (Kd.int .u8) _ 5 rfl (N := 28) rfl 23 _ _ rfl 65536 rfl rfl Try.underlying23 (.int .u8 0) 1 info5 rfl (by decide) (by omega) 0 (ok := fun _ => True) (okp := fun _ => True) rfl (fun _ hk => hk) trivial (by omega) (by omega) (Below.refl _ _) (Nat.le_refl _) ?_; intro vL wL hoL hb hg_ hnew_; clear hg_ hnew_; (first | rw [← HL0.out] at hoL | (simp only [Int.reduceToNat] at hoL; rw [← HL0.out] at hoL)); have HOL := Lib.hid (Kd.R_bound hoL); have HWL := Lib.hid (below_step HB.out hb).size; replace HB := Lib.hid (below_step HB.out hb); clear hoL hb) | ((with_reducible refine gate_dst (N := 29) rfl ?_); (try (refine gate_guard (by rfl) ?_; dsimp only)); refine Kd.R_make (Kd.int .u8) _ 5 rfl (N := 29) rfl 23 _ _ rfl 65537 rfl rfl Try.underlying23 (.int .u8 0) 1 info5 rfl (by decide) (by omega) 0 (ok := fun _ => True) (okp := fun _ => True) rfl (fun _ hk => hk) trivial (by omega) (by omega) (Below.refl _ _) (Nat.le_refl _) ?_; intro vM wM hoM hb hg_ hnew_; clear hg_ hnew_; (first | rw [← HM.out] at hoM | (simp only [Int.reduceToNat] at hoM; rw [← HM.out] at hoM)); replace HOL := Lib.hid (Kd.R_below HOL.out hb); have HOM := Lib.hid (Kd.R_bound hoM); replace HB := Lib.hid (below_step HB.out hb); clear hoM hb))
  have FM := Lib.hid (Kd.R_slice HOM.out)
  obtain ⟨AM, cM, eM⟩ := FM.out
  subst eM
  clear FM
  have hLl : 0 < L0.length := by rw [HZM.out, twoslotlaw04_CodecNames.mid_len, HZ.out]; decide
  obtain ⟨gL, cL, eL, hgL, hgL2, -⟩ := Kd.R_form HOL.out hLl
  subst eL
  have HLL := Lib.hid (show L0.length = Z by rw [HZM.out, twoslotlaw04_CodecNames.mid_len])
  have HGL := Lib.hid (show gL < wL.heap.size from (HOL.out.1 gL rfl).2.2.1)
  clear hLl hgL2
  rw [HLL.out, HZM.out] at HOL
  rw [HLL.out]
  have HOM2 := Lib.hid (Kd.R_mono (ok' := fun k_ => wL.heap.size ≤ k_) HOM.out (fun _ hk => hk.2.1))
  have HOL2 := Lib.hid (Kd.R_mono (ok' := fun k_ => True) HOL.out (fun _ _ => trivial))
  clear HOM HOL HZM HLL HL0
  have HGB := Lib.hid (Nat.le_trans HB1.out.size hgL)
  clear hgL
  go_wp2_with fail
  go_loopg [4] Z (fun gk s4 wx => ∃ n : Nat, n + gk = Z ∧ s4 = .int .i64 n ∧ Hid (Kd.R (Kd.int .u8) 5 wx w1.heap.size (fun _ => True) (.slice (some ⟨gL, 0, none⟩) Z cL) (twoslotlaw04_CodecNames.mid Z n)) ∧ Hid (Kd.R (Kd.int .u8) 5 wx wL.heap.size (fun k_ => wL.heap.size ≤ k_) (.slice AM M.length cM) M) ∧ Hid (Below w.heap.size w wx))
  case atStart => exact ⟨0, by omega, rfl, HOL2, HOM2, HB⟩
  case round =>
    clear HOL2 HOM2 HB
    obtain ⟨n, hng, rfl, HOL, HOM, HB⟩ := hrel
    cases gk with
    | succ g =>
      have hn : (n : Int) < (Z : Int) := by omega
      have hn0 : (0 : Int) ≤ (n : Int) := by omega
      have hn6 : n < 65536 := by have := HZ.out; omega
      obtain ⟨hxa, hfa⟩ := Kd.R_celln 0 HOL.out (n : Int) (by omega) hn
      have HP := Kd.R_putg HOL.out (n : Int) ((n : Int) % 256)
      simp only [Int.toNat_natCast] at HP hxa hfa
      rw [twoslotlaw04_CodecNames.mid_set (by omega)] at HP
      have HP2 := Lib.hid HP
      clear HP
      have HN := Lib.hid hn6
      clear hn6
      go_wp2_with fail
      go_roundg g
      case measure => omega
      case rel => exact ⟨n + 1, by omega, by have := HN.out; rw [show wrap64 ((n : Int) + 1) = ((n + 1 : Nat) : Int) by unfold wrap64; omega], Lib.hid HP2.out.1, Lib.hid (Kd.R_far HOM.out (p := ⟨gL, n, none⟩) (fun k_ hk_ z => by have := HGL.out; have h1 : wL.heap.size ≤ k_ := hk_; have h2 : k_ = gL := z; omega) _), Lib.hid (below_set HB.out HGB.out)⟩
    | zero =>
      obtain rfl : n = Z := by omega
      generalize twoslotlaw04_CodecNames.mid n n = L at HOL H1
      have HLn := Lib.hid (Kd.R_reads' HOL.out).1
      rw [HLn.out] at HOL HZ hng ⊢
      have FL := Lib.hid (Kd.R_reads' HOL.out).2.2
      have GL := Lib.hid (Kd.R_reads' HOL.out).2.1
      have FM := Lib.hid (Kd.R_reads' HOM.out).2.2
      have GM := Lib.hid (Kd.R_reads' HOM.out).2.1
      clear HOL HOM HGL HGB HWL HB1 hng
      have bw1 := below_alloc (Below.refl wr.heap.size wr) (.cells #[.slice (some ⟨gL, 0, none⟩) L.length cL] 23)
      have q1_0 : (wr.alloc (.cells #[.slice (some ⟨gL, 0, none⟩) L.length cL] 23)).heap[wr.heap.size]? = some (.cells #[.slice (some ⟨gL, 0, none⟩) L.length cL] 23) := heap_alloc_at _ _ (by first | rfl | simp)
      have hL1_0 : Kd.C (Kd.slice 5 (Kd.int .u8)) (wr.alloc (.cells #[.slice (some ⟨gL, 0, none⟩) L.length cL] 23)) (some ⟨wr.heap.size, 0, none⟩) 1 [L] := lit_rows (ys := [L]) q1_0 rfl (RowsC.one (RowC.mk (Kd.C_below FL.out bw1) GL.out)) (by simp)
      have H_hL1_0 := Lib.hid hL1_0
      have H_bw1 := Lib.hid bw1
      clear q1_0 hL1_0 bw1
      go_wp2_with fail
      refine (codec_Encode.calls k 1 1 (some ⟨wr.heap.size, 0, none⟩) 1 [L] [L] 0 _ H_hL1_0.out (Nat.le_refl _) H1.out).mono ?_
      rintro en w2 ⟨v1, rfl, ho, hb⟩
      have hbn := (below_step H_bw1.out hb)
      replace FL := Lib.hid (Kd.C_below FL.out hbn)
      replace FM := Lib.hid (Kd.C_below FM.out hbn)
      replace HB := Lib.hid (below_step HB.out hbn)
      obtain ⟨Ap, cp, rfl⟩ := Kd.S_slice ho
      have Fp := Lib.hid (Kd.S_reads' ho).2.2
      have Gp := Lib.hid (Kd.S_reads' ho).2.1
      clear ho
      clear hb hbn
      clear H_hL1_0
      clear H_bw1
      have bw3 := below_alloc (Below.refl w2.heap.size w2) (.cells #[.slice AM M.length cM] 23)
      have q3_0 : (w2.alloc (.cells #[.slice AM M.length cM] 23)).heap[w2.heap.size]? = some (.cells #[.slice AM M.length cM] 23) := heap_alloc_at _ _ (by first | rfl | simp)
      have hL3_0 : Kd.C (Kd.slice 5 (Kd.int .u8)) (w2.alloc (.cells #[.slice AM M.length cM] 23)) (some ⟨w2.heap.size, 0, none⟩) 1 [M] := lit_rows (ys := [M]) q3_0 rfl (RowsC.one (RowC.mk (Kd.C_below FM.out bw3) GM.out)) (by simp)
      have H_hL3_0 := Lib.hid hL3_0
      have H_bw3 := Lib.hid bw3
      clear q3_0 hL3_0 bw3
      go_wp2_with fail
      refine (codec_Encode.calls k 1 1 (some ⟨w2.heap.size, 0, none⟩) 1 [M] [] 40 _ H_hL3_0.out (Nat.le_refl _) H2.out).mono ?_
      rintro en w4 ⟨v1, rfl, -, hb⟩
      have hbn := (below_step H_bw3.out hb)
      replace FL := Lib.hid (Kd.C_below FL.out hbn)
      replace FM := Lib.hid (Kd.C_below FM.out hbn)
      replace Fp := Lib.hid (Kd.C_below Fp.out hbn)
      replace HB := Lib.hid (below_step HB.out hbn)
      clear hb hbn
      clear H_hL3_0
      clear H_bw3
      go_wp2_with fail
      refine (codec_Encode.calls k 1 5 none 0 [] [] 2 _ (Kd.C_nil _ _) (Nat.le_refl _) H3.out).mono ?_
      rintro en w5 ⟨v1, rfl, -, hb⟩
      have hbn := hb
      replace FL := Lib.hid (Kd.C_below FL.out hbn)
      replace FM := Lib.hid (Kd.C_below FM.out hbn)
      replace Fp := Lib.hid (Kd.C_below Fp.out hbn)
      replace HB := Lib.hid (below_step HB.out hbn)
      clear hb hbn
      go_wp2_with fail
      refine (codec_Encode.calls k 13 0 none 0 [] [] 2 _ (Kd.C_nil _ _) (Nat.le_refl _) H4.out).mono ?_
      rintro en w6 ⟨v1, rfl, -, hb⟩
      have hbn := hb
      replace FL := Lib.hid (Kd.C_below FL.out hbn)
      replace FM := Lib.hid (Kd.C_below FM.out hbn)
      replace Fp := Lib.hid (Kd.C_below Fp.out hbn)
      replace HB := Lib.hid (below_step HB.out hbn)
      clear hb hbn
      go_wp2_with fail
      refine (codec_Encode.calls k 1 0 none 0 [] [] 40 _ (Kd.C_nil _ _) (Nat.le_refl _) H5.out).mono ?_
      rintro en w7 ⟨v1, rfl, -, hb⟩
      have hbn := hb
      replace FL := Lib.hid (Kd.C_below FL.out hbn)
      replace FM := Lib.hid (Kd.C_below FM.out hbn)
      replace Fp := Lib.hid (Kd.C_below Fp.out hbn)
      replace HB := Lib.hid (below_step HB.out hbn)
      clear hb hbn
      go_wp2_with fail
      refine (codec_Decode.calls k 1 (-1) none 0 [] [] 2 _ (Kd.C_nil _ _) (Nat.le_refl _) H6.out).mono ?_
      rintro en w8 ⟨v1, rfl, -, hb⟩
      have hbn := hb
      replace FL := Lib.hid (Kd.C_below FL.out hbn)
      replace FM := Lib.hid (Kd.C_below FM.out hbn)
      replace Fp := Lib.hid (Kd.C_below Fp.out hbn)
      replace HB := Lib.hid (below_step HB.out hbn)
      clear hb hbn
      have bw9 := below_alloc (Below.refl w8.heap.size w8) (.cells #[.slice none 0 0, .slice AM M.length cM] 23)
      have q9_0 : (w8.alloc (.cells #[.slice none 0 0, .slice AM M.length cM] 23)).heap[w8.heap.size]? = some (.cells #[.slice none 0 0, .slice AM M.length cM] 23) := heap_alloc_at _ _ (by first | rfl | simp)
      have hL9_0 : Kd.C (Kd.slice 5 (Kd.int .u8)) (w8.alloc (.cells #[.slice none 0 0, .slice AM M.length cM] 23)) (some ⟨w8.heap.size, 0, none⟩) 2 [[], M] := lit_rows (ys := [[], M]) q9_0 rfl ((RowsC.one (RowC.mk (Kd.C_below (Kd.C_nil _ _) bw9) (Nat.le_refl _))).append (RowsC.one (RowC.mk (Kd.C_below FM.out bw9) GM.out))) (by simp)
      have H_hL9_0 := Lib.hid hL9_0
      have H_bw9 := Lib.hid bw9
      clear q9_0 hL9_0 bw9
      go_wp2_with fail
      refine (codec_Decode.calls k 1 1 (some ⟨w8.heap.size, 0, none⟩) 2 [[], M] [] 40 _ H_hL9_0.out (Nat.le_refl _) H7.out).mono ?_
      rintro en w10 ⟨v1, rfl, -, hb⟩
      have hbn := (below_step H_bw9.out hb)
      replace FL := Lib.hid (Kd.C_below FL.out hbn)
      replace FM := Lib.hid (Kd.C_below FM.out hbn)
      replace Fp := Lib.hid (Kd.C_below Fp.out hbn)
      replace HB := Lib.hid (below_step HB.out hbn)
      clear hb hbn
      clear H_hL9_0
      clear H_bw9
      obtain ⟨d, d1, d2, d3, d4, d5⟩ := H8.out
      have HD1 := Lib.hid d1
      have HD2 := Lib.hid d2
      have HD3 := Lib.hid d3
      have HD4 := Lib.hid d4
      have HD5 := Lib.hid d5
      clear d1 d2 d3 d4 d5 H8
      have bw11 := below_alloc (below_alloc (below_alloc (below_alloc (below_alloc (below_alloc (below_alloc (below_alloc (below_alloc (below_alloc (below_alloc (below_alloc (below_alloc (Below.refl w10.heap.size w10) (.cells #[.int .u8 4] 5)) (.cells #[.int .u8 5] 5)) (.cells #[.int .u8 6] 5)) (.cells #[.int .u8 7] 5)) (.cells #[.int .u8 8] 5)) (.cells #[.int .u8 9] 5)) (.cells #[.int .u8 10] 5)) (.cells #[.int .u8 11] 5)) (.cells #[.int .u8 12] 5)) (.cells #[.int .u8 13] 5)) (.cells #[.int .u8 14] 5)) (.cells #[.int .u8 15] 5)) (.cells #[.slice none 0 0, .slice none 0 0, .slice none 0 0, .slice none 0 0, .slice (some ⟨w10.heap.size, 0, none⟩) 1 1, .slice (some ⟨w10.heap.size + 1, 0, none⟩) 1 1, .slice (some ⟨w10.heap.size + 2, 0, none⟩) 1 1, .slice (some ⟨w10.heap.size + 3, 0, none⟩) 1 1, .slice (some ⟨w10.heap.size + 4, 0, none⟩) 1 1, .slice (some ⟨w10.heap.size + 5, 0, none⟩) 1 1, .slice (some ⟨w10.heap.size + 6, 0, none⟩) 1 1, .slice (some ⟨w10.heap.size + 7, 0, none⟩) 1 1, .slice (some ⟨w10.heap.size + 8, 0, none⟩) 1 1, .slice (some ⟨w10.heap.size + 9, 0, none⟩) 1 1, .slice (some ⟨w10.heap.size + 10, 0, none⟩) 1 1, .slice (some ⟨w10.heap.size + 11, 0, none⟩) 1 1] 23)
      have q11_0 : (((((((((((((w10.alloc (.cells #[.int .u8 4] 5)).alloc (.cells #[.int .u8 5] 5)).alloc (.cells #[.int .u8 6] 5)).alloc (.cells #[.int .u8 7] 5)).alloc (.cells #[.int .u8 8] 5)).alloc (.cells #[.int .u8 9] 5)).alloc (.cells #[.int .u8 10] 5)).alloc (.cells #[.int .u8 11] 5)).alloc (.cells #[.int .u8 12] 5)).alloc (.cells #[.int .u8 13] 5)).alloc (.cells #[.int .u8 14] 5)).alloc (.cells #[.int .u8 15] 5)).alloc (.cells #[.slice none 0 0, .slice none 0 0, .slice none 0 0, .slice none 0 0, .slice (some ⟨w10.heap.size, 0, none⟩) 1 1, .slice (some ⟨w10.heap.size + 1, 0, none⟩) 1 1, .slice (some ⟨w10.heap.size + 2, 0, none⟩) 1 1, .slice (some ⟨w10.heap.size + 3, 0, none⟩) 1 1, .slice (some ⟨w10.heap.size + 4, 0, none⟩) 1 1, .slice (some ⟨w10.heap.size + 5, 0, none⟩) 1 1, .slice (some ⟨w10.heap.size + 6, 0, none⟩) 1 1, .slice (some ⟨w10.heap.size + 7, 0, none⟩) 1 1, .slice (some ⟨w10.heap.size + 8, 0, none⟩) 1 1, .slice (some ⟨w10.heap.size + 9, 0, none⟩) 1 1, .slice (some ⟨w10.heap.size + 10, 0, none⟩) 1 1, .slice (some ⟨w10.heap.size + 11, 0, none⟩) 1 1] 23)).heap[w10.heap.size]? = some (.cells #[.int .u8 4] 5) := blk_alloc (blk_alloc (blk_alloc (blk_alloc (blk_alloc (blk_alloc (blk_alloc (blk_alloc (blk_alloc (blk_alloc (blk_alloc (blk_alloc (heap_alloc_at _ _ (by first | rfl | simp)) _) _) _) _) _) _) _) _) _) _) _) _
      have hL11_0 : Kd.C (Kd.int .u8) (((((((((((((w10.alloc (.cells #[.int .u8 4] 5)).alloc (.cells #[.int .u8 5] 5)).alloc (.cells #[.int .u8 6] 5)).alloc (.cells #[.int .u8 7] 5)).alloc (.cells #[.int .u8 8] 5)).alloc (.cells #[.int .u8 9] 5)).alloc (.cells #[.int .u8 10] 5)).alloc (.cells #[.int .u8 11] 5)).alloc (.cells #[.int .u8 12] 5)).alloc (.cells #[.int .u8 13] 5)).alloc (.cells #[.int .u8 14] 5)).alloc (.cells #[.int .u8 15] 5)).alloc (.cells #[.slice none 0 0, .slice none 0 0, .slice none 0 0, .slice none 0 0, .slice (some ⟨w10.heap.size, 0, none⟩) 1 1, .slice (some ⟨w10.heap.size + 1, 0, none⟩) 1 1, .slice (some ⟨w10.heap.size + 2, 0, none⟩) 1 1, .slice (some ⟨w10.heap.size + 3, 0, none⟩) 1 1, .slice (some ⟨w10.heap.size + 4, 0, none⟩) 1 1, .slice (some ⟨w10.heap.size + 5, 0, none⟩) 1 1, .slice (some ⟨w10.heap.size + 6, 0, none⟩) 1 1, .slice (some ⟨w10.heap.size + 7, 0, none⟩) 1 1, .slice (some ⟨w10.heap.size + 8, 0, none⟩) 1 1, .slice (some ⟨w10.heap.size + 9, 0, none⟩) 1 1, .slice (some ⟨w10.heap.size + 10, 0, none⟩) 1 1, .slice (some ⟨w10.heap.size + 11, 0, none⟩) 1 1] 23)) (some ⟨w10.heap.size, 0, none⟩) 1 [4] := lit_C (k := .u8) (xs := [4]) q11_0 (by simp [encs]) (by decide)
      have q11_1 : (((((((((((((w10.alloc (.cells #[.int .u8 4] 5)).alloc (.cells #[.int .u8 5] 5)).alloc (.cells #[.int .u8 6] 5)).alloc (.cells #[.int .u8 7] 5)).alloc (.cells #[.int .u8 8] 5)).alloc (.cells #[.int .u8 9] 5)).alloc (.cells #[.int .u8 10] 5)).alloc (.cells #[.int .u8 11] 5)).alloc (.cells #[.int .u8 12] 5)).alloc (.cells #[.int .u8 13] 5)).alloc (.cells #[.int .u8 14] 5)).alloc (.cells #[.int .u8 15] 5)).alloc (.cells #[.slice none 0 0, .slice none 0 0, .slice none 0 0, .slice none 0 0, .slice (some ⟨w10.heap.size, 0, none⟩) 1 1, .slice (some ⟨w10.heap.size + 1, 0, none⟩) 1 1, .slice (some ⟨w10.heap.size + 2, 0, none⟩) 1 1, .slice (some ⟨w10.heap.size + 3, 0, none⟩) 1 1, .slice (some ⟨w10.heap.size + 4, 0, none⟩) 1 1, .slice (some ⟨w10.heap.size + 5, 0, none⟩) 1 1, .slice (some ⟨w10.heap.size + 6, 0, none⟩) 1 1, .slice (some ⟨w10.heap.size + 7, 0, none⟩) 1 1, .slice (some ⟨w10.heap.size + 8, 0, none⟩) 1 1, .slice (some ⟨w10.heap.size + 9, 0, none⟩) 1 1, .slice (some ⟨w10.heap.size + 10, 0, none⟩) 1 1, .slice (some ⟨w10.heap.size + 11, 0, none⟩) 1 1] 23)).heap[w10.heap.size + 1]? = some (.cells #[.int .u8 5] 5) := blk_alloc (blk_alloc (blk_alloc (blk_alloc (blk_alloc (blk_alloc (blk_alloc (blk_alloc (blk_alloc (blk_alloc (blk_alloc (heap_alloc_at _ _ (by first | rfl | simp)) _) _) _) _) _) _) _) _) _) _) _
      have hL11_1 : Kd.C (Kd.int .u8) (((((((((((((w10.alloc (.cells #[.int .u8 4] 5)).alloc (.cells #[.int .u8 5] 5)).alloc (.cells #[.int .u8 6] 5)).alloc (.cells #[.int .u8 7] 5)).alloc (.cells #[.int .u8 8] 5)).alloc (.cells #[.int .u8 9] 5)).alloc (.cells #[.int .u8 10] 5)).alloc (.cells #[.int .u8 11] 5)).alloc (.cells #[.int .u8 12] 5)).alloc (.cells #[.int .u8 13] 5)).alloc (.cells #[.int .u8 14] 5)).alloc (.cells #[.int .u8 15] 5)).alloc (.cells #[.slice none 0 0, .slice none 0 0, .slice none 0 0, .slice none 0 0, .slice (some ⟨w10.heap.size, 0, none⟩) 1 1, .slice (some ⟨w10.heap.size + 1, 0, none⟩) 1 1, .slice (some ⟨w10.heap.size + 2, 0, none⟩) 1 1, .slice (some ⟨w10.heap.size + 3, 0, none⟩) 1 1, .slice (some ⟨w10.heap.size + 4, 0, none⟩) 1 1, .slice (some ⟨w10.heap.size + 5, 0, none⟩) 1 1, .slice (some ⟨w10.heap.size + 6, 0, none⟩) 1 1, .slice (some ⟨w10.heap.size + 7, 0, none⟩) 1 1, .slice (some ⟨w10.heap.size + 8, 0, none⟩) 1 1, .slice (some ⟨w10.heap.size + 9, 0, none⟩) 1 1, .slice (some ⟨w10.heap.size + 10, 0, none⟩) 1 1, .slice (some ⟨w10.heap.size + 11, 0, none⟩) 1 1] 23)) (some ⟨w10.heap.size + 1, 0, none⟩) 1 [5] := lit_C (k := .u8) (xs := [5]) q11_1 (by simp [encs]) (by decide)
      have q11_2 : (((((((((((((w10.alloc (.cells #[.int .u8 4] 5)).alloc (.cells #[.int .u8 5] 5)).alloc (.cells #[.int .u8 6] 5)).alloc (.cells #[.int .u8 7] 5)).alloc (.cells #[.int .u8 8] 5)).alloc (.cells #[.int .u8 9] 5)).alloc (.cells #[.int .u8 10] 5)).alloc (.cells #[.int .u8 11] 5)).alloc (.cells #[.int .u8 12] 5)).alloc (.cells #[.int .u8 13] 5)).alloc (.cells #[.int .u8 14] 5)).alloc (.cells #[.int .u8 15] 5)).alloc (.cells #[.slice none 0 0, .slice none 0 0, .slice none 0 0, .slice none 0 0, .slice (some ⟨w10.heap.size, 0, none⟩) 1 1, .slice (some ⟨w10.heap.size + 1, 0, none⟩) 1 1, .slice (some ⟨w10.heap.size + 2, 0, none⟩) 1 1, .slice (some ⟨w10.heap.size + 3, 0, none⟩) 1 1, .slice (some ⟨w10.heap.size + 4, 0, none⟩) 1 1, .slice (some ⟨w10.heap.size + 5, 0, none⟩) 1 1, .slice (some ⟨w10.heap.size + 6, 0, none⟩) 1 1, .slice (some ⟨w10.heap.size + 7, 0, none⟩) 1 1, .slice (some ⟨w10.heap.size + 8, 0, none⟩) 1 1, .slice (some ⟨w10.heap.size + 9, 0, none⟩) 1 1, .slice (some ⟨w10.heap.size + 10, 0, none⟩) 1 1, .slice (some ⟨w10.heap.size + 11, 0, none⟩) 1 1] 23)).heap[w10.heap.size + 2]? = some (.cells #[.int .u8 6] 5) := blk_alloc (blk_alloc (blk_alloc (blk_alloc (blk_alloc (blk_alloc (blk_alloc (blk_alloc (blk_alloc (blk_alloc (heap_alloc_at _ _ (by first | rfl | simp)) _) _) _) _) _) _) _) _) _) _
      have hL11_2 : Kd.C (Kd.int .u8) (((((((((((((w10.alloc (.cells #[.int .u8 4] 5)).alloc (.cells #[.int .u8 5] 5)).alloc (.cells #[.int .u8 6] 5)).alloc (.cells #[.int .u8 7] 5)).alloc (.cells #[.int .u8 8] 5)).alloc (.cells #[.int .u8 9] 5)).alloc (.cells #[.int .u8 10] 5)).alloc (.cells #[.int .u8 11] 5)).alloc (.cells #[.int .u8 12] 5)).alloc (.cells #[.int .u8 13] 5)).alloc (.cells #[.int .u8 14] 5)).alloc (.cells #[.int .u8 15] 5)).alloc (.cells #[.slice none 0 0, .slice none 0 0, .slice none 0 0, .slice none 0 0, .slice (some ⟨w10.heap.size, 0, none⟩) 1 1, .slice (some ⟨w10.heap.size + 1, 0, none⟩) 1 1, .slice (some ⟨w10.heap.size + 2, 0, none⟩) 1 1, .slice (some ⟨w10.heap.size + 3, 0, none⟩) 1 1, .slice (some ⟨w10.heap.size + 4, 0, none⟩) 1 1, .slice (some ⟨w10.heap.size + 5, 0, none⟩) 1 1, .slice (some ⟨w10.heap.size + 6, 0, none⟩) 1 1, .slice (some ⟨w10.heap.size + 7, 0, none⟩) 1 1, .slice (some ⟨w10.heap.size + 8, 0, none⟩) 1 1, .slice (some ⟨w10.heap.size + 9, 0, none⟩) 1 1, .slice (some ⟨w10.heap.size + 10, 0, none⟩) 1 1, .slice (some ⟨w10.heap.size + 11, 0, none⟩) 1 1] 23)) (some ⟨w10.heap.size + 2, 0, none⟩) 1 [6] := lit_C (k := .u8) (xs := [6]) q11_2 (by simp [encs]) (by decide)
      have q11_3 : (((((((((((((w10.alloc (.cells #[.int .u8 4] 5)).alloc (.cells #[.int .u8 5] 5)).alloc (.cells #[.int .u8 6] 5)).alloc (.cells #[.int .u8 7] 5)).alloc (.cells #[.int .u8 8] 5)).alloc (.cells #[.int .u8 9] 5)).alloc (.cells #[.int .u8 10] 5)).alloc (.cells #[.int .u8 11] 5)).alloc (.cells #[.int .u8 12] 5)).alloc (.cells #[.int .u8 13] 5)).alloc (.cells #[.int .u8 14] 5)).alloc (.cells #[.int .u8 15] 5)).alloc (.cells #[.slice none 0 0, .slice none 0 0, .slice none 0 0, .slice none 0 0, .slice (some ⟨w10.heap.size, 0, none⟩) 1 1, .slice (some ⟨w10.heap.size + 1, 0, none⟩) 1 1, .slice (some ⟨w10.heap.size + 2, 0, none⟩) 1 1, .slice (some ⟨w10.heap.size + 3, 0, none⟩) 1 1, .slice (some ⟨w10.heap.size + 4, 0, none⟩) 1 1, .slice (some ⟨w10.heap.size + 5, 0, none⟩) 1 1, .slice (some ⟨w10.heap.size + 6, 0, none⟩) 1 1, .slice (some ⟨w10.heap.size + 7, 0, none⟩) 1 1, .slice (some ⟨w10.heap.size + 8, 0, none⟩) 1 1, .slice (some ⟨w10.heap.size + 9, 0, none⟩) 1 1, .slice (some ⟨w10.heap.size + 10, 0, none⟩) 1 1, .slice (some ⟨w10.heap.size + 11, 0, none⟩) 1 1] 23)).heap[w10.heap.size + 3]? = some (.cells #[.int .u8 7] 5) := blk_alloc (blk_alloc (blk_alloc (blk_alloc (blk_alloc (blk_alloc (blk_alloc (blk_alloc (blk_alloc (heap_alloc_at _ _ (by first | rfl | simp)) _) _) _) _) _) _) _) _) _
      have hL11_3 : Kd.C (Kd.int .u8) (((((((((((((w10.alloc (.cells #[.int .u8 4] 5)).alloc (.cells #[.int .u8 5] 5)).alloc (.cells #[.int .u8 6] 5)).alloc (.cells #[.int .u8 7] 5)).alloc (.cells #[.int .u8 8] 5)).alloc (.cells #[.int .u8 9] 5)).alloc (.cells #[.int .u8 10] 5)).alloc (.cells #[.int .u8 11] 5)).alloc (.cells #[.int .u8 12] 5)).alloc (.cells #[.int .u8 13] 5)).alloc (.cells #[.int .u8 14] 5)).alloc (.cells #[.int .u8 15] 5)).alloc (.cells #[.slice none 0 0, .slice none 0 0, .slice none 0 0, .slice none 0 0, .slice (some ⟨w10.heap.size, 0, none⟩) 1 1, .slice (some ⟨w10.heap.size + 1, 0, none⟩) 1 1, .slice (some ⟨w10.heap.size + 2, 0, none⟩) 1 1, .slice (some ⟨w10.heap.size + 3, 0, none⟩) 1 1, .slice (some ⟨w10.heap.size + 4, 0, none⟩) 1 1, .slice (some ⟨w10.heap.size + 5, 0, none⟩) 1 1, .slice (some ⟨w10.heap.size + 6, 0, none⟩) 1 1, .slice (some ⟨w10.heap.size + 7, 0, none⟩) 1 1, .slice (some ⟨w10.heap.size + 8, 0, none⟩) 1 1, .slice (some ⟨w10.heap.size + 9, 0, none⟩) 1 1, .slice (some ⟨w10.heap.size + 10, 0, none⟩) 1 1, .slice (some ⟨w10.heap.size + 11, 0, none⟩) 1 1] 23)) (some ⟨w10.heap.size + 3, 0, none⟩) 1 [7] := lit_C (k := .u8) (xs := [7]) q11_3 (by simp [encs]) (by decide)
      have q11_4 : (((((((((((((w10.alloc (.cells #[.int .u8 4] 5)).alloc (.cells #[.int .u8 5] 5)).alloc (.cells #[.int .u8 6] 5)).alloc (.cells #[.int .u8 7] 5)).alloc (.cells #[.int .u8 8] 5)).alloc (.cells #[.int .u8 9] 5)).alloc (.cells #[.int .u8 10] 5)).alloc (.cells #[.int .u8 11] 5)).alloc (.cells #[.int .u8 12] 5)).alloc (.cells #[.int .u8 13] 5)).alloc (.cells #[.int .u8 14] 5)).alloc (.cells #[.int .u8 15] 5)).alloc (.cells #[.slice none 0 0, .slice none 0 0, .slice none 0 0, .slice none 0 0, .slice (some ⟨w10.heap.size, 0, none⟩) 1 1, .slice (some ⟨w10.heap.size + 1, 0, none⟩) 1 1, .slice (some ⟨w10.heap.size + 2, 0, none⟩) 1 1, .slice (some ⟨w10.heap.size + 3, 0, none⟩) 1 1, .slice (some ⟨w10.heap.size + 4, 0, none⟩) 1 1, .slice (some ⟨w10.heap.size + 5, 0, none⟩) 1 1, .slice (some ⟨w10.heap.size + 6, 0, none⟩) 1 1, .slice (some ⟨w10.heap.size + 7, 0, none⟩) 1 1, .slice (some ⟨w10.heap.size + 8, 0, none⟩) 1 1, .slice (some ⟨w10.heap.size + 9, 0, none⟩) 1 1, .slice (some ⟨w10.heap.size + 10, 0, none⟩) 1 1, .slice (some ⟨w10.heap.size + 11, 0, none⟩) 1 1] 23)).heap[w10.heap.size + 4]? = some (.cells #[.int .u8 8] 5) := blk_alloc (blk_alloc (blk_alloc (blk_alloc (blk_alloc (blk_alloc (blk_alloc (blk_alloc (heap_alloc_at _ _ (by first | rfl | simp)) _) _) _) _) _) _) _) _
      have hL11_4 : Kd.C (Kd.int .u8) (((((((((((((w10.alloc (.cells #[.int .u8 4] 5)).alloc (.cells #[.int .u8 5] 5)).alloc (.cells #[.int .u8 6] 5)).alloc (.cells #[.int .u8 7] 5)).alloc (.cells #[.int .u8 8] 5)).alloc (.cells #[.int .u8 9] 5)).alloc (.cells #[.int .u8 10] 5)).alloc (.cells #[.int .u8 11] 5)).alloc (.cells #[.int .u8 12] 5)).alloc (.cells #[.int .u8 13] 5)).alloc (.cells #[.int .u8 14] 5)).alloc (.cells #[.int .u8 15] 5)).alloc (.cells #[.slice none 0 0, .slice none 0 0, .slice none 0 0, .slice none 0 0, .slice (some ⟨w10.heap.size, 0, none⟩) 1 1, .slice (some ⟨w10.heap.size + 1, 0, none⟩) 1 1, .slice (some ⟨w10.heap.size + 2, 0, none⟩) 1 1, .slice (some ⟨w10.heap.size + 3, 0, none⟩) 1 1, .slice (some ⟨w10.heap.size + 4, 0, none⟩) 1 1, .slice (some ⟨w10.heap.size + 5, 0, none⟩) 1 1, .slice (some ⟨w10.heap.size + 6, 0, none⟩) 1 1, .slice (some ⟨w10.heap.size + 7, 0, none⟩) 1 1, .slice (some ⟨w10.heap.size + 8, 0, none⟩) 1 1, .slice (some ⟨w10.heap.size + 9, 0, none⟩) 1 1, .slice (some ⟨w10.heap.size + 10, 0, none⟩) 1 1, .slice (some ⟨w10.heap.size + 11, 0, none⟩) 1 1] 23)) (some ⟨w10.heap.size + 4, 0, none⟩) 1 [8] := lit_C (k := .u8) (xs := [8]) q11_4 (by simp [encs]) (by decide)
      have q11_5 : (((((((((((((w10.alloc (.cells #[.int .u8 4] 5)).alloc (.cells #[.int .u8 5] 5)).alloc (.cells #[.int .u8 6] 5)).alloc (.cells #[.int .u8 7] 5)).alloc (.cells #[.int .u8 8] 5)).alloc (.cells #[.int .u8 9] 5)).alloc (.cells #[.int .u8 10] 5)).alloc (.cells #[.int .u8 11] 5)).alloc (.cells #[.int .u8 12] 5)).alloc (.cells #[.int .u8 13] 5)).alloc (.cells #[.int .u8 14] 5)).alloc (.cells #[.int .u8 15] 5)).alloc (.cells #[.slice none 0 0, .slice none 0 0, .slice none 0 0, .slice none 0 0, .slice (some ⟨w10.heap.size, 0, none⟩) 1 1, .slice (some ⟨w10.heap.size + 1, 0, none⟩) 1 1, .slice (some ⟨w10.heap.size + 2, 0, none⟩) 1 1, .slice (some ⟨w10.heap.size + 3, 0, none⟩) 1 1, .slice (some ⟨w10.heap.size + 4, 0, none⟩) 1 1, .slice (some ⟨w10.heap.size + 5, 0, none⟩) 1 1, .slice (some ⟨w10.heap.size + 6, 0, none⟩) 1 1, .slice (some ⟨w10.heap.size + 7, 0, none⟩) 1 1, .slice (some ⟨w10.heap.size + 8, 0, none⟩) 1 1, .slice (some ⟨w10.heap.size + 9, 0, none⟩) 1 1, .slice (some ⟨w10.heap.size + 10, 0, none⟩) 1 1, .slice (some ⟨w10.heap.size + 11, 0, none⟩) 1 1] 23)).heap[w10.heap.size + 5]? = some (.cells #[.int .u8 9] 5) := blk_alloc (blk_alloc (blk_alloc (blk_alloc (blk_alloc (blk_alloc (blk_alloc (heap_alloc_at _ _ (by first | rfl | simp)) _) _) _) _) _) _) _
      have hL11_5 : Kd.C (Kd.int .u8) (((((((((((((w10.alloc (.cells #[.int .u8 4] 5)).alloc (.cells #[.int .u8 5] 5)).alloc (.cells #[.int .u8 6] 5)).alloc (.cells #[.int .u8 7] 5)).alloc (.cells #[.int .u8 8] 5)).alloc (.cells #[.int .u8 9] 5)).alloc (.cells #[.int .u8 10] 5)).alloc (.cells #[.int .u8 11] 5)).alloc (.cells #[.int .u8 12] 5)).alloc (.cells #[.int .u8 13] 5)).alloc (.cells #[.int .u8 14] 5)).alloc (.cells #[.int .u8 15] 5)).alloc (.cells #[.slice none 0 0, .slice none 0 0, .slice none 0 0, .slice none 0 0, .slice (some ⟨w10.heap.size, 0, none⟩) 1 1, .slice (some ⟨w10.heap.size + 1, 0, none⟩) 1 1, .slice (some ⟨w10.heap.size + 2, 0, none⟩) 1 1, .slice (some ⟨w10.heap.size + 3, 0, none⟩) 1 1, .slice (some ⟨w10.heap.size + 4, 0, none⟩) 1 1, .slice (some ⟨w10.heap.size + 5, 0, none⟩) 1 1, .slice (some ⟨w10.heap.size + 6, 0, none⟩) 1 1, .slice (some ⟨w10.heap.size + 7, 0, none⟩) 1 1, .slice (some ⟨w10.heap.size + 8, 0, none⟩) 1 1, .slice (some ⟨w10.heap.size + 9, 0, none⟩) 1 1, .slice (some ⟨w10.heap.size + 10, 0, none⟩) 1 1, .slice (some ⟨w10.heap.size + 11, 0, none⟩) 1 1] 23)) (some ⟨w10.heap.size + 5, 0, none⟩) 1 [9] := lit_C (k := .u8) (xs := [9]) q11_5 (by simp [encs]) (by decide)
      have q11_6 : (((((((((((((w10.alloc (.cells #[.int .u8 4] 5)).alloc (.cells #[.int .u8 5] 5)).alloc (.cells #[.int .u8 6] 5)).alloc (.cells #[.int .u8 7] 5)).alloc (.cells #[.int .u8 8] 5)).alloc (.cells #[.int .u8 9] 5)).alloc (.cells #[.int .u8 10] 5)).alloc (.cells #[.int .u8 11] 5)).alloc (.cells #[.int .u8 12] 5)).alloc (.cells #[.int .u8 13] 5)).alloc (.cells #[.int .u8 14] 5)).alloc (.cells #[.int .u8 15] 5)).alloc (.cells #[.slice none 0 0, .slice none 0 0, .slice none 0 0, .slice none 0 0, .slice (some ⟨w10.heap.size, 0, none⟩) 1 1, .slice (some ⟨w10.heap.size + 1, 0, none⟩) 1 1, .slice (some ⟨w10.heap.size + 2, 0, none⟩) 1 1, .slice (some ⟨w10.heap.size + 3, 0, none⟩) 1 1, .slice (some ⟨w10.heap.size + 4, 0, none⟩) 1 1, .slice (some ⟨w10.heap.size + 5, 0, none⟩) 1 1, .slice (some ⟨w10.heap.size + 6, 0, none⟩) 1 1, .slice (some ⟨w10.heap.size + 7, 0, none⟩) 1 1, .slice (some ⟨w10.heap.size + 8, 0, none⟩) 1 1, .slice (some ⟨w10.heap.size + 9, 0, none⟩) 1 1, .slice (some ⟨w10.heap.size + 10, 0, none⟩) 1 1, .slice (some ⟨w10.heap.size + 11, 0, none⟩) 1 1] 23)).heap[w10.heap.size + 6]? = some (.cells #[.int .u8 10] 5) := blk_alloc (blk_alloc (blk_alloc (blk_alloc (blk_alloc (blk_alloc (heap_alloc_at _ _ (by first | rfl | simp)) _) _) _) _) _) _
      have hL11_6 : Kd.C (Kd.int .u8) (((((((((((((w10.alloc (.cells #[.int .u8 4] 5)).alloc (.cells #[.int .u8 5] 5)).alloc (.cells #[.int .u8 6] 5)).alloc (.cells #[.int .u8 7] 5)).alloc (.cells #[.int .u8 8] 5)).alloc (.cells #[.int .u8 9] 5)).alloc (.cells #[.int .u8 10] 5)).alloc (.cells #[.int .u8 11] 5)).alloc (.cells #[.int .u8 12] 5)).alloc (.cells #[.int .u8 13] 5)).alloc (.cells #[.int .u8 14] 5)).alloc (.cells #[.int .u8 15] 5)).alloc (.cells #[.slice none 0 0, .slice none 0 0, .slice none 0 0, .slice none 0 0, .slice (some ⟨w10.heap.size, 0, none⟩) 1 1, .slice (some ⟨w10.heap.size + 1, 0, none⟩) 1 1, .slice (some ⟨w10.heap.size + 2, 0, none⟩) 1 1, .slice (some ⟨w10.heap.size + 3, 0, none⟩) 1 1, .slice (some ⟨w10.heap.size + 4, 0, none⟩) 1 1, .slice (some ⟨w10.heap.size + 5, 0, none⟩) 1 1, .slice (some ⟨w10.heap.size + 6, 0, none⟩) 1 1, .slice (some ⟨w10.heap.size + 7, 0, none⟩) 1 1, .slice (some ⟨w10.heap.size + 8, 0, none⟩) 1 1, .slice (some ⟨w10.heap.size + 9, 0, none⟩) 1 1, .slice (some ⟨w10.heap.size + 10, 0, none⟩) 1 1, .slice (some ⟨w10.heap.size + 11, 0, none⟩) 1 1] 23)) (some ⟨w10.heap.size + 6, 0, none⟩) 1 [10] := lit_C (k := .u8) (xs := [10]) q11_6 (by simp [encs]) (by decide)
      have q11_7 : (((((((((((((w10.alloc (.cells #[.int .u8 4] 5)).alloc (.cells #[.int .u8 5] 5)).alloc (.cells #[.int .u8 6] 5)).alloc (.cells #[.int .u8 7] 5)).alloc (.cells #[.int .u8 8] 5)).alloc (.cells #[.int .u8 9] 5)).alloc (.cells #[.int .u8 10] 5)).alloc (.cells #[.int .u8 11] 5)).alloc (.cells #[.int .u8 12] 5)).alloc (.cells #[.int .u8 13] 5)).alloc (.cells #[.int .u8 14] 5)).alloc (.cells #[.int .u8 15] 5)).alloc (.cells #[.slice none 0 0, .slice none 0 0, .slice none 0 0, .slice none 0 0, .slice (some ⟨w10.heap.size, 0, none⟩) 1 1, .slice (some ⟨w10.heap.size + 1, 0, none⟩) 1 1, .slice (some ⟨w10.heap.size + 2, 0, none⟩) 1 1, .slice (some ⟨w10.heap.size + 3, 0, none⟩) 1 1, .slice (some ⟨w10.heap.size + 4, 0, none⟩) 1 1, .slice (some ⟨w10.heap.size + 5, 0, none⟩) 1 1, .slice (some ⟨w10.heap.size + 6, 0, none⟩) 1 1, .slice (some ⟨w10.heap.size + 7, 0, none⟩) 1 1, .slice (some ⟨w10.heap.size + 8, 0, none⟩) 1 1, .slice (some ⟨w10.heap.size + 9, 0, none⟩) 1 1, .slice (some ⟨w10.heap.size + 10, 0, none⟩) 1 1, .slice (some ⟨w10.heap.size + 11, 0, none⟩) 1 1] 23)).heap[w10.heap.size + 7]? = some (.cells #[.int .u8 11] 5) := blk_alloc (blk_alloc (blk_alloc (blk_alloc (blk_alloc (heap_alloc_at _ _ (by first | rfl | simp)) _) _) _) _) _
      have hL11_7 : Kd.C (Kd.int .u8) (((((((((((((w10.alloc (.cells #[.int .u8 4] 5)).alloc (.cells #[.int .u8 5] 5)).alloc (.cells #[.int .u8 6] 5)).alloc (.cells #[.int .u8 7] 5)).alloc (.cells #[.int .u8 8] 5)).alloc (.cells #[.int .u8 9] 5)).alloc (.cells #[.int .u8 10] 5)).alloc (.cells #[.int .u8 11] 5)).alloc (.cells #[.int .u8 12] 5)).alloc (.cells #[.int .u8 13] 5)).alloc (.cells #[.int .u8 14] 5)).alloc (.cells #[.int .u8 15] 5)).alloc (.cells #[.slice none 0 0, .slice none 0 0, .slice none 0 0, .slice none 0 0, .slice (some ⟨w10.heap.size, 0, none⟩) 1 1, .slice (some ⟨w10.heap.size + 1, 0, none⟩) 1 1, .slice (some ⟨w10.heap.size + 2, 0, none⟩) 1 1, .slice (some ⟨w10.heap.size + 3, 0, none⟩) 1 1, .slice (some ⟨w10.heap.size + 4, 0, none⟩) 1 1, .slice (some ⟨w10.heap.size + 5, 0, none⟩) 1 1, .slice (some ⟨w10.heap.size + 6, 0, none⟩) 1 1, .slice (some ⟨w10.heap.size + 7, 0, none⟩) 1 1, .slice (some ⟨w10.heap.size + 8, 0, none⟩) 1 1, .slice (some ⟨w10.heap.size + 9, 0, none⟩) 1 1, .slice (some ⟨w10.heap.size + 10, 0, none⟩) 1 1, .slice (some ⟨w10.heap.size + 11, 0, none⟩) 1 1] 23)) (some ⟨w10.heap.size + 7, 0, none⟩) 1 [11] := lit_C (k := .u8) (xs := [11]) q11_7 (by simp [encs]) (by decide)
      have q11_8 : (((((((((((((w10.alloc (.cells #[.int .u8 4] 5)).alloc (.cells #[.int .u8 5] 5)).alloc (.cells #[.int .u8 6] 5)).alloc (.cells #[.int .u8 7] 5)).alloc (.cells #[.int .u8 8] 5)).alloc (.cells #[.int .u8 9] 5)).alloc (.cells #[.int .u8 10] 5)).alloc (.cells #[.int .u8 11] 5)).alloc (.cells #[.int .u8 12] 5)).alloc (.cells #[.int .u8 13] 5)).alloc (.cells #[.int .u8 14] 5)).alloc (.cells #[.int .u8 15] 5)).alloc (.cells #[.slice none 0 0, .slice none 0 0, .slice none 0 0, .slice none 0 0, .slice (some ⟨w10.heap.size, 0, none⟩) 1 1, .slice (some ⟨w10.heap.size + 1, 0, none⟩) 1 1, .slice (some ⟨w10.heap.size + 2, 0, none⟩) 1 1, .slice (some ⟨w10.heap.size + 3, 0, none⟩) 1 1, .slice (some ⟨w10.heap.size + 4, 0, none⟩) 1 1, .slice (some ⟨w10.heap.size + 5, 0, none⟩) 1 1, .slice (some ⟨w10.heap.size + 6, 0, none⟩) 1 1, .slice (some ⟨w10.heap.size + 7, 0, none⟩) 1 1, .slice (some ⟨w10.heap.size + 8, 0, none⟩) 1 1, .slice (some ⟨w10.heap.size + 9, 0, none⟩) 1 1, .slice (some ⟨w10.heap.size + 10, 0, none⟩) 1 1, .slice (some ⟨w10.heap.size + 11, 0, none⟩) 1 1] 23)).heap[w10.heap.size + 8]? = some (.cells #[.int .u8 12] 5) := blk_alloc (blk_alloc (blk_alloc (blk_alloc (heap_alloc_at _ _ (by first | rfl | simp)) _) _) _) _
      have hL11_8 : Kd.C (Kd.int .u8) (((((((((((((w10.alloc (.cells #[.int .u8 4] 5)).alloc (.cells #[.int .u8 5] 5)).alloc (.cells #[.int .u8 6] 5)).alloc (.cells #[.int .u8 7] 5)).alloc (.cells #[.int .u8 8] 5)).alloc (.cells #[.int .u8 9] 5)).alloc (.cells #[.int .u8 10] 5)).alloc (.cells #[.int .u8 11] 5)).alloc (.cells #[.int .u8 12] 5)).alloc (.cells #[.int .u8 13] 5)).alloc (.cells #[.int .u8 14] 5)).alloc (.cells #[.int .u8 15] 5)).alloc (.cells #[.slice none 0 0, .slice none 0 0, .slice none 0 0, .slice none 0 0, .slice (some ⟨w10.heap.size, 0, none⟩) 1 1, .slice (some ⟨w10.heap.size + 1, 0, none⟩) 1 1, .slice (some ⟨w10.heap.size + 2, 0, none⟩) 1 1, .slice (some ⟨w10.heap.size + 3, 0, none⟩) 1 1, .slice (some ⟨w10.heap.size + 4, 0, none⟩) 1 1, .slice (some ⟨w10.heap.size + 5, 0, none⟩) 1 1, .slice (some ⟨w10.heap.size + 6, 0, none⟩) 1 1, .slice (some ⟨w10.heap.size + 7, 0, none⟩) 1 1, .slice (some ⟨w10.heap.size + 8, 0, none⟩) 1 1, .slice (some ⟨w10.heap.size + 9, 0, none⟩) 1 1, .slice (some ⟨w10.heap.size + 10, 0, none⟩) 1 1, .slice (some ⟨w10.heap.size + 11, 0, none⟩) 1 1] 23)) (some ⟨w10.heap.size + 8, 0, none⟩) 1 [12] := lit_C (k := .u8) (xs := [12]) q11_8 (by simp [encs]) (by decide)
      have q11_9 : (((((((((((((w10.alloc (.cells #[.int .u8 4] 5)).alloc (.cells #[.int .u8 5] 5)).alloc (.cells #[.int .u8 6] 5)).alloc (.cells #[.int .u8 7] 5)).alloc (.cells #[.int .u8 8] 5)).alloc (.cells #[.int .u8 9] 5)).alloc (.cells #[.int .u8 10] 5)).alloc (.cells #[.int .u8 11] 5)).alloc (.cells #[.int .u8 12] 5)).alloc (.cells #[.int .u8 13] 5)).alloc (.cells #[.int .u8 14] 5)).alloc (.cells #[.int .u8 15] 5)).alloc (.cells #[.slice none 0 0, .slice none 0 0, .slice none 0 0, .slice none 0 0, .slice (some ⟨w10.heap.size, 0, none⟩) 1 1, .slice (some ⟨w10.heap.size + 1, 0, none⟩) 1 1, .slice (some ⟨w10.heap.size + 2, 0, none⟩) 1 1, .slice (some ⟨w10.heap.size + 3, 0, none⟩) 1 1, .slice (some ⟨w10.heap.size + 4, 0, none⟩) 1 1, .slice (some ⟨w10.heap.size + 5, 0, none⟩) 1 1, .slice (some ⟨w10.heap.size + 6, 0, none⟩) 1 1, .slice (some ⟨w10.heap.size + 7, 0, none⟩) 1 1, .slice (some ⟨w10.heap.size + 8, 0, none⟩) 1 1, .slice (some ⟨w10.heap.size + 9, 0, none⟩) 1 1, .slice (some ⟨w10.heap.size + 10, 0, none⟩) 1 1, .slice (some ⟨w10.heap.size + 11, 0, none⟩) 1 1] 23)).heap[w10.heap.size + 9]? = some (.cells #[.int .u8 13] 5) := blk_alloc (blk_alloc (blk_alloc (heap_alloc_at _ _ (by first | rfl | simp)) _) _) _
      have hL11_9 : Kd.C (Kd.int .u8) (((((((((((((w10.alloc (.cells #[.int .u8 4] 5)).alloc (.cells #[.int .u8 5] 5)).alloc (.cells #[.int .u8 6] 5)).alloc (.cells #[.int .u8 7] 5)).alloc (.cells #[.int .u8 8] 5)).alloc (.cells #[.int .u8 9] 5)).alloc (.cells #[.int .u8 10] 5)).alloc (.cells #[.int .u8 11] 5)).alloc (.cells #[.int .u8 12] 5)).alloc (.cells #[.int .u8 13] 5)).alloc (.cells #[.int .u8 14] 5)).alloc (.cells #[.int .u8 15] 5)).alloc (.cells #[.slice none 0 0, .slice none 0 0, .slice none 0 0, .slice none 0 0, .slice (some ⟨w10.heap.size, 0, none⟩) 1 1, .slice (some ⟨w10.heap.size + 1, 0, none⟩) 1 1, .slice (some ⟨w10.heap.size + 2, 0, none⟩) 1 1, .slice (some ⟨w10.heap.size + 3, 0, none⟩) 1 1, .slice (some ⟨w10.heap.size + 4, 0, none⟩) 1 1, .slice (some ⟨w10.heap.size + 5, 0, none⟩) 1 1, .slice (some ⟨w10.heap.size + 6, 0, none⟩) 1 1, .slice (some ⟨w10.heap.size + 7, 0, none⟩) 1 1, .slice (some ⟨w10.heap.size + 8, 0, none⟩) 1 1, .slice (some ⟨w10.heap.size + 9, 0, none⟩) 1 1, .slice (some ⟨w10.heap.size + 10, 0, none⟩) 1 1, .slice (some ⟨w10.heap.size + 11, 0, none⟩) 1 1] 23)) (some ⟨w10.heap.size + 9, 0, none⟩) 1 [13] := lit_C (k := .u8) (xs := [13]) q11_9 (by simp [encs]) (by decide)
      have q11_10 : (((((((((((((w10.alloc (.cells #[.int .u8 4] 5)).alloc (.cells #[.int .u8 5] 5)).alloc (.cells #[.int .u8 6] 5)).alloc (.cells #[.int .u8 7] 5)).alloc (.cells #[.int .u8 8] 5)).alloc (.cells #[.int .u8 9] 5)).alloc (.cells #[.int .u8 10] 5)).alloc (.cells #[.int .u8 11] 5)).alloc (.cells #[.int .u8 12] 5)).alloc (.cells #[.int .u8 13] 5)).alloc (.cells #[.int .u8 14] 5)).alloc (.cells #[.int .u8 15] 5)).alloc (.cells #[.slice none 0 0, .slice none 0 0, .slice none 0 0, .slice none 0 0, .slice (some ⟨w10.heap.size, 0, none⟩) 1 1, .slice (some ⟨w10.heap.size + 1, 0, none⟩) 1 1, .slice (some ⟨w10.heap.size + 2, 0, none⟩) 1 1, .slice (some ⟨w10.heap.size + 3, 0, none⟩) 1 1, .slice (some ⟨w10.heap.size + 4, 0, none⟩) 1 1, .slice (some ⟨w10.heap.size + 5, 0, none⟩) 1 1, .slice (some ⟨w10.heap.size + 6, 0, none⟩) 1 1, .slice (some ⟨w10.heap.size + 7, 0, none⟩) 1 1, .slice (some ⟨w10.heap.size + 8, 0, none⟩) 1 1, .slice (some ⟨w10.heap.size + 9, 0, none⟩) 1 1, .slice (some ⟨w10.heap.size + 10, 0, none⟩) 1 1, .slice (some ⟨w10.heap.size + 11, 0, none⟩) 1 1] 23)).heap[w10.heap.size + 10]? = some (.cells #[.int .u8 14] 5) := blk_alloc (blk_alloc (heap_alloc_at _ _ (by first | rfl | simp)) _) _
      have hL11_10 : Kd.C (Kd.int .u8) (((((((((((((w10.alloc (.cells #[.int .u8 4] 5)).alloc (.cells #[.int .u8 5] 5)).alloc (.cells #[.int .u8 6] 5)).alloc (.cells #[.int .u8 7] 5)).alloc (.cells #[.int .u8 8] 5)).alloc (.cells #[.int .u8 9] 5)).alloc (.cells #[.int .u8 10] 5)).alloc (.cells #[.int .u8 11] 5)).alloc (.cells #[.int .u8 12] 5)).alloc (.cells #[.int .u8 13] 5)).alloc (.cells #[.int .u8 14] 5)).alloc (.cells #[.int .u8 15] 5)).alloc (.cells #[.slice none 0 0, .slice none 0 0, .slice none 0 0, .slice none 0 0, .slice (some ⟨w10.heap.size, 0, none⟩) 1 1, .slice (some ⟨w10.heap.size + 1, 0, none⟩) 1 1, .slice (some ⟨w10.heap.size + 2, 0, none⟩) 1 1, .slice (some ⟨w10.heap.size + 3, 0, none⟩) 1 1, .slice (some ⟨w10.heap.size + 4, 0, none⟩) 1 1, .slice (some ⟨w10.heap.size + 5, 0, none⟩) 1 1, .slice (some ⟨w10.heap.size + 6, 0, none⟩) 1 1, .slice (some ⟨w10.heap.size + 7, 0, none⟩) 1 1, .slice (some ⟨w10.heap.size + 8, 0, none⟩) 1 1, .slice (some ⟨w10.heap.size + 9, 0, none⟩) 1 1, .slice (some ⟨w10.heap.size + 10, 0, none⟩) 1 1, .slice (some ⟨w10.heap.size + 11, 0, none⟩) 1 1] 23)) (some ⟨w10.heap.size + 10, 0, none⟩) 1 [14] := lit_C (k := .u8) (xs := [14]) q11_10 (by simp [encs]) (by decide)
      have q11_11 : (((((((((((((w10.alloc (.cells #[.int .u8 4] 5)).alloc (.cells #[.int .u8 5] 5)).alloc (.cells #[.int .u8 6] 5)).alloc (.cells #[.int .u8 7] 5)).alloc (.cells #[.int .u8 8] 5)).alloc (.cells #[.int .u8 9] 5)).alloc (.cells #[.int .u8 10] 5)).alloc (.cells #[.int .u8 11] 5)).alloc (.cells #[.int .u8 12] 5)).alloc (.cells #[.int .u8 13] 5)).alloc (.cells #[.int .u8 14] 5)).alloc (.cells #[.int .u8 15] 5)).alloc (.cells #[.slice none 0 0, .slice none 0 0, .slice none 0 0, .slice none 0 0, .slice (some ⟨w10.heap.size, 0, none⟩) 1 1, .slice (some ⟨w10.heap.size + 1, 0, none⟩) 1 1, .slice (some ⟨w10.heap.size + 2, 0, none⟩) 1 1, .slice (some ⟨w10.heap.size + 3, 0, none⟩) 1 1, .slice (some ⟨w10.heap.size + 4, 0, none⟩) 1 1, .slice (some ⟨w10.heap.size + 5, 0, none⟩) 1 1, .slice (some ⟨w10.heap.size + 6, 0, none⟩) 1 1, .slice (some ⟨w10.heap.size + 7, 0, none⟩) 1 1, .slice (some ⟨w10.heap.size + 8, 0, none⟩) 1 1, .slice (some ⟨w10.heap.size + 9, 0, none⟩) 1 1, .slice (some ⟨w10.heap.size + 10, 0, none⟩) 1 1, .slice (some ⟨w10.heap.size + 11, 0, none⟩) 1 1] 23)).heap[w10.heap.size + 11]? = some (.cells #[.int .u8 15] 5) := blk_alloc (heap_alloc_at _ _ (by first | rfl | simp)) _
      have hL11_11 : Kd.C (Kd.int .u8) (((((((((((((w10.alloc (.cells #[.int .u8 4] 5)).alloc (.cells #[.int .u8 5] 5)).alloc (.cells #[.int .u8 6] 5)).alloc (.cells #[.int .u8 7] 5)).alloc (.cells #[.int .u8 8] 5)).alloc (.cells #[.int .u8 9] 5)).alloc (.cells #[.int .u8 10] 5)).alloc (.cells #[.int .u8 11] 5)).alloc (.cells #[.int .u8 12] 5)).alloc (.cells #[.int .u8 13] 5)).alloc (.cells #[.int .u8 14] 5)).alloc (.cells #[.int .u8 15] 5)).alloc (.cells #[.slice none 0 0, .slice none 0 0, .slice none 0 0, .slice none 0 0, .slice (some ⟨w10.heap.size, 0, none⟩) 1 1, .slice (some ⟨w10.heap.size + 1, 0, none⟩) 1 1, .slice (some ⟨w10.heap.size + 2, 0, none⟩) 1 1, .slice (some ⟨w10.heap.size + 3, 0, none⟩) 1 1, .slice (some ⟨w10.heap.size + 4, 0, none⟩) 1 1, .slice (some ⟨w10.heap.size + 5, 0, none⟩) 1 1, .slice (some ⟨w10.heap.size + 6, 0, none⟩) 1 1, .slice (some ⟨w10.heap.size + 7, 0, none⟩) 1 1, .slice (some ⟨w10.heap.size + 8, 0, none⟩) 1 1, .slice (some ⟨w10.heap.size + 9, 0, none⟩) 1 1, .slice (some ⟨w10.heap.size + 10, 0, none⟩) 1 1, .slice (some ⟨w10.heap.size + 11, 0, none⟩) 1 1] 23)) (some ⟨w10.heap.size + 11, 0, none⟩) 1 [15] := lit_C (k := .u8) (xs := [15]) q11_11 (by simp [encs]) (by decide)
      have q11_12 : (((((((((((((w10.alloc (.cells #[.int .u8 4] 5)).alloc (.cells #[.int .u8 5] 5)).alloc (.cells #[.int .u8 6] 5)).alloc (.cells #[.int .u8 7] 5)).alloc (.cells #[.int .u8 8] 5)).alloc (.cells #[.int .u8 9] 5)).alloc (.cells #[.int .u8 10] 5)).alloc (.cells #[.int .u8 11] 5)).alloc (.cells #[.int .u8 12] 5)).alloc (.cells #[.int .u8 13] 5)).alloc (.cells #[.int .u8 14] 5)).alloc (.cells #[.int .u8 15] 5)).alloc (.cells #[.slice none 0 0, .slice none 0 0, .slice none 0 0, .slice none 0 0, .slice (some ⟨w10.heap.size, 0, none⟩) 1 1, .slice (some ⟨w10.heap.size + 1, 0, none⟩) 1 1, .slice (some ⟨w10.heap.size + 2, 0, none⟩) 1 1, .slice (some ⟨w10.heap.size + 3, 0, none⟩) 1 1, .slice (some ⟨w10.heap.size + 4, 0, none⟩) 1 1, .slice (some ⟨w10.heap.size + 5, 0, none⟩) 1 1, .slice (some ⟨w10.heap.size + 6, 0, none⟩) 1 1, .slice (some ⟨w10.heap.size + 7, 0, none⟩) 1 1, .slice (some ⟨w10.heap.size + 8, 0, none⟩) 1 1, .slice (some ⟨w10.heap.size + 9, 0, none⟩) 1 1, .slice (some ⟨w10.heap.size + 10, 0, none⟩) 1 1, .slice (some ⟨w10.heap.size + 11, 0, none⟩) 1 1] 23)).heap[w10.heap.size + 12]? = some (.cells #[.slice none 0 0, .slice none 0 0, .slice none 0 0, .slice none 0 0, .slice (some ⟨w10.heap.size, 0, none⟩) 1 1, .slice (some ⟨w10.heap.size + 1, 0, none⟩) 1 1, .slice (some ⟨w10.heap.size + 2, 0, none⟩) 1 1, .slice (some ⟨w10.heap.size + 3, 0, none⟩) 1 1, .slice (some ⟨w10.heap.size + 4, 0, none⟩) 1 1, .slice (some ⟨w10.heap.size + 5, 0, none⟩) 1 1, .slice (some ⟨w10.heap.size + 6, 0, none⟩) 1 1, .slice (some ⟨w10.heap.size + 7, 0, none⟩) 1 1, .slice (some ⟨w10.heap.size + 8, 0, none⟩) 1 1, .slice (some ⟨w10.heap.size + 9, 0, none⟩) 1 1, .slice (some ⟨w10.heap.size + 10, 0, none⟩) 1 1, .slice (some ⟨w10.heap.size + 11, 0, none⟩) 1 1] 23) := heap_alloc_at _ _ (by first | rfl | simp)
      have hL11_12 : Kd.C (Kd.slice 5 (Kd.int .u8)) (((((((((((((w10.alloc (.cells #[.int .u8 4] 5)).alloc (.cells #[.int .u8 5] 5)).alloc (.cells #[.int .u8 6] 5)).alloc (.cells #[.int .u8 7] 5)).alloc (.cells #[.int .u8 8] 5)).alloc (.cells #[.int .u8 9] 5)).alloc (.cells #[.int .u8 10] 5)).alloc (.cells #[.int .u8 11] 5)).alloc (.cells #[.int .u8 12] 5)).alloc (.cells #[.int .u8 13] 5)).alloc (.cells #[.int .u8 14] 5)).alloc (.cells #[.int .u8 15] 5)).alloc (.cells #[.slice none 0 0, .slice none 0 0, .slice none 0 0, .slice none 0 0, .slice (some ⟨w10.heap.size, 0, none⟩) 1 1, .slice (some ⟨w10.heap.size + 1, 0, none⟩) 1 1, .slice (some ⟨w10.heap.size + 2, 0, none⟩) 1 1, .slice (some ⟨w10.heap.size + 3, 0, none⟩) 1 1, .slice (some ⟨w10.heap.size + 4, 0, none⟩) 1 1, .slice (some ⟨w10.heap.size + 5, 0, none⟩) 1 1, .slice (some ⟨w10.heap.size + 6, 0, none⟩) 1 1, .slice (some ⟨w10.heap.size + 7, 0, none⟩) 1 1, .slice (some ⟨w10.heap.size + 8, 0, none⟩) 1 1, .slice (some ⟨w10.heap.size + 9, 0, none⟩) 1 1, .slice (some ⟨w10.heap.size + 10, 0, none⟩) 1 1, .slice (some ⟨w10.heap.size + 11, 0, none⟩) 1 1] 23)) (some ⟨w10.heap.size + 12, 0, none⟩) 16 [[], [], [], [], [4], [5], [6], [7], [8], [9], [10], [11], [12], [13], [14], [15]] := lit_rows (ys := [[], [], [], [], [4], [5], [6], [7], [8], [9], [10], [11], [12], [13], [14], [15]]) q11_12 rfl ((((((((((((((((RowsC.one (RowC.mk (Kd.C_below (Kd.C_nil _ _) bw11) (Nat.le_refl _))).append (RowsC.one (RowC.mk (Kd.C_below (Kd.C_nil _ _) bw11) (Nat.le_refl _)))).append (RowsC.one (RowC.mk (Kd.C_below (Kd.C_nil _ _) bw11) (Nat.le_refl _)))).append (RowsC.one (RowC.mk (Kd.C_below (Kd.C_nil _ _) bw11) (Nat.le_refl _)))).append (RowsC.one (RowC.mk hL11_0 (Nat.le_refl _)))).append (RowsC.one (RowC.mk hL11_1 (Nat.le_refl _)))).append (RowsC.one (RowC.mk hL11_2 (Nat.le_refl _)))).append (RowsC.one (RowC.mk hL11_3 (Nat.le_refl _)))).append (RowsC.one (RowC.mk hL11_4 (Nat.le_refl _)))).append (RowsC.one (RowC.mk hL11_5 (Nat.le_refl _)))).append (RowsC.one (RowC.mk hL11_6 (Nat.le_refl _)))).append (RowsC.one (RowC.mk hL11_7 (Nat.le_refl _)))).append (RowsC.one (RowC.mk hL11_8 (Nat.le_refl _)))).append (RowsC.one (RowC.mk hL11_9 (Nat.le_refl _)))).append (RowsC.one (RowC.mk hL11_10 (Nat.le_refl _)))).append (RowsC.one (RowC.mk hL11_11 (Nat.le_refl _)))) (by simp)
      have H_hL11_0 := Lib.hid hL11_0
      have H_hL11_1 := Lib.hid hL11_1
      have H_hL11_2 := Lib.hid hL11_2
      have H_hL11_3 := Lib.hid hL11_3
      have H_hL11_4 := Lib.hid hL11_4
      have H_hL11_5 := Lib.hid hL11_5
      have H_hL11_6 := Lib.hid hL11_6
      have H_hL11_7 := Lib.hid hL11_7
      have H_hL11_8 := Lib.hid hL11_8
      have H_hL11_9 := Lib.hid hL11_9
      have H_hL11_10 := Lib.hid hL11_10
      have H_hL11_11 := Lib.hid hL11_11
      have H_hL11_12 := Lib.hid hL11_12
      have H_bw11 := Lib.hid bw11
      clear q11_0 q11_1 q11_2 q11_3 q11_4 q11_5 q11_6 q11_7 q11_8 q11_9 q11_10 q11_11 q11_12 hL11_0 hL11_1 hL11_2 hL11_3 hL11_4 hL11_5 hL11_6 hL11_7 hL11_8 hL11_9 hL11_10 hL11_11 hL11_12 bw11
      go_wp2_with fail
      refine (codec_Decode.calls k 12 4 (some ⟨w10.heap.size + 12, 0, none⟩) 16 [[], [], [], [], [4], [5], [6], [7], [8], [9], [10], [11], [12], [13], [14], [15]] d 0 _ H_hL11_12.out (Nat.le_refl _) HD1.out).mono ?_
      rintro en w12 ⟨v1, rfl, ho, hb⟩
      have hbn := (below_step H_bw11.out hb)
      replace FL := Lib.hid (Kd.C_below FL.out hbn)
      replace FM := Lib.hid (Kd.C_below FM.out hbn)
      replace Fp := Lib.hid (Kd.C_below Fp.out hbn)
      replace HB := Lib.hid (below_step HB.out hbn)
      obtain ⟨Ad, cd, rfl⟩ := Kd.N_slice ho
      have Fd := Lib.hid (Kd.N_reads' ho).2.2
      have Gd := Lib.hid (Kd.N_reads' ho).2.1
      clear ho
      clear hb hbn
      clear H_hL11_0 H_hL11_1 H_hL11_2 H_hL11_3 H_hL11_4 H_hL11_5 H_hL11_6 H_hL11_7 H_hL11_8 H_hL11_9 H_hL11_10 H_hL11_11 H_hL11_12
      clear H_bw11
      go_wp2_with fail
      refine (codec_Verify.calls k 0 0 none 0 [] false 2 _ (Kd.C_nil _ _) (Nat.le_refl _) H9.out).mono ?_
      rintro en w13 ⟨rfl, hb⟩
      have hbn := hb
      replace FL := Lib.hid (Kd.C_below FL.out hbn)
      replace FM := Lib.hid (Kd.C_below FM.out hbn)
      replace Fp := Lib.hid (Kd.C_below Fp.out hbn)
      replace Fd := Lib.hid (Kd.C_below Fd.out hbn)
      replace HB := Lib.hid (below_step HB.out hbn)
      clear hb hbn
      have N16 : ((d.length : Int) != 16) = false := by rw [HD2.out]; rfl
      have N16' : ((d.length : Int) == 16) = true := by rw [HD2.out]; rfl
      go_wp2_with fail
      refine (codec_Verify.calls k 12 4 Ad cd d true 0 _ Fd.out Gd.out HD5.out).mono ?_
      rintro en w14 ⟨rfl, hb⟩
      have hbn := hb
      replace FL := Lib.hid (Kd.C_below FL.out hbn)
      replace FM := Lib.hid (Kd.C_below FM.out hbn)
      replace Fp := Lib.hid (Kd.C_below Fp.out hbn)
      replace Fd := Lib.hid (Kd.C_below Fd.out hbn)
      replace HB := Lib.hid (below_step HB.out hbn)
      clear hb hbn
      have hcL := Kd.C_string (P := Try.prog) (A := some ⟨gL, 0, none⟩) (c := cL) Try.underlying23 Try.underlying5 Try.underlying9 FL.out
      have hcLn := fun n_ : Nat => Kd.C_string (P := Try.prog) (A := some ⟨gL, 0, none⟩) (c := cL) Try.underlying23 Try.underlying5 Try.underlying9 (Kd.C_drewN FL.out n_)
      obtain ⟨adp, Bp, ep, rp, hxp, -, hrp⟩ := at_L1 Fp.out 0 (by decide) (show ((0 : Int)) < ((1 : Nat) : Int) by decide)
      subst rp
      have hup : (adp.add (0 : Int).toNat) = adp := by cases adp; simp [Addr.add]
      rw [hup] at hxp
      have hxp' : w14.cell? adp = some (.slice Bp L.length ep) := hxp
      have hrp' : Kd.C (Kd.int .u8) w14 Bp L.length L := hrp
      have hcp := Kd.C_string (P := Try.prog) (A := Bp) (c := ep) Try.underlying23 Try.underlying5 Try.underlying9 hrp'
      have hcpn := fun n_ : Nat => Kd.C_string (P := Try.prog) (A := Bp) (c := ep) Try.underlying23 Try.underlying5 Try.underlying9 (Kd.C_drewN hrp' n_)
      have HRP := Lib.hid hrp'
      clear hxp hrp hup hrp'
      obtain ⟨adq, Bq, eq, rq, hxq, -, hrq⟩ := at_L1 Fd.out 15 (by decide) (by rw [HD2.out]; decide)
      subst rq
      have hxq' : w14.cell? ⟨adq.block, adq.off + 15, none⟩ = some (.slice Bq (rd_L1 d 15).length eq) := hxq
      rw [HD3.out] at hxq' hrq
      obtain ⟨bdq, sq, hyq⟩ := Kd.at_int hrq 0 (by decide) (by decide)
      subst sq
      have huq : (bdq.add (0 : Int).toNat) = bdq := by cases bdq; simp [Addr.add]
      rw [huq] at hyq
      have hyq' : w14.cell? bdq = some (.int .u8 15) := hyq
      clear hxq hrq huq hyq
      obtain ⟨adr, Br, er, rr, hxr, -, hrr⟩ := at_L1 Fd.out 4 (by decide) (by rw [HD2.out]; decide)
      injection rr with rr
      subst rr
      have hxr' : w14.cell? ⟨adq.block, adq.off + 4, none⟩ = some (.slice Br (rd_L1 d 4).length er) := hxr
      rw [HD4.out] at hxr' hrr
      obtain ⟨bdr, sr, hyr⟩ := Kd.at_int hrr 0 (by decide) (by decide)
      subst sr
      have hur : (bdr.add (0 : Int).toNat) = bdr := by cases bdr; simp [Addr.add]
      rw [hur] at hyr
      have hyr' : w14.cell? bdr = some (.int .u8 4) := hyr
      clear hxr hrr hur hyr
      have h15 : decide ((15 : Int) < (d.length : Int)) = true := by rw [HD2.out]; rfl
      have h4 : decide ((4 : Int) < (d.length : Int)) = true := by rw [HD2.out]; rfl
      have h15' : (15 : Int) < (d.length : Int) := by rw [HD2.out]; decide
      have h4' : (4 : Int) < (d.length : Int) := by rw [HD2.out]; decide
      have n15' : 15 < d.length := by rw [HD2.out]; decide
      have n4' : 4 < d.length := by rw [HD2.out]; decide
      go_wp2_with fail
      repeat (go_quiet (fail); try go_wp2)
      go_ret
      exact ⟨by first | rfl | simp, pw_below_drewN HB.out _⟩

theorem twoslotlaw04_CodecNames.walk (P : twoslotlaw04_CodecNames.Pure)  (w : World)  :
    Calls Try.prog 3 #[] w fun e w' => e = .returned (.bool true) ∧ Below w.heap.size w w' := by
  obtain ⟨k, h⟩ := P
  exact twoslotlaw04_CodecNames.calls k w h

end Go.Proofs.Ythhncoogmncdkaa.PA
