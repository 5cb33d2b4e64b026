import Derived.Test.YthhncoogmncdkaaPCx0
import Derived.Test.YthhncoogmncdkaaPCx11
import Derived.Test.YthhncoogmncdkaaLin
-- written by the session's own program (wip/prt.py) over the kit's print: not print.sh's own text
namespace Go.Proofs.Ythhncoogmncdkaa.PC
open Go.RowKit Go.Proofs.YthhncoogmncdkaaW.PrintWords Go.Proofs.YthhncoogmncdkaaW.PrintLast Go.Proofs.YthhncoogmncdkaaW.PrintMore
attribute [local go_sem] max2_int min2_int max_two min_two max_three min_three max_four min_four   -- for this text's walks alone
set_option linter.unusedVariables false
set_option linter.unusedSimpArgs false

/-! ### matrix_times: function 56 -/
def matrix_times.l0 : Nat → List Int → Int → Int → Int → Option (List Int)
  | 0, _, _, _, _ => none
  | k + 1, x0, x1, x6, x7 => if x7 < x6 then (if 0 ≤ x7 then (if x7 < (x0.length : Int) then ((gf_Mul.f k (rd x0 x7) x1).bind fun t123 => (matrix_times.l0 k (x0.set (x7 : Int).toNat t123) x1 x6 (wrap64 (x7 + 1)))) else (none)) else (none)) else (some x0)
def matrix_times.f (k : Nat) (l0 : List Int) (a1 : Int) : Option (List Int) := matrix_times.l0 k l0 a1 (l0.length : Int) 0
theorem matrix_times.mono_l : ∀ k, (∀ y0 y1 y2 y3, LeO (matrix_times.l0 k y0 y1 y2 y3) (matrix_times.l0 (k + 1) y0 y1 y2 y3))
  | 0 => fun _ _ _ _ r h => by simp [matrix_times.l0] at h
  | k + 1 => by
    have ih0 := matrix_times.mono_l k
    · intro y0 y1 y2 y3
      unfold matrix_times.l0
      repeat' first
      | (with_reducible exact ih0 _ _ _ _)
      | (with_reducible exact gf_Mul.mono _ _ _)
      | (with_reducible exact LeO.refl _)
      | (with_reducible exact LeO.none _)
      | (with_reducible refine LeO.ite ?_ ?_)
      | (with_reducible refine LeO.bind ?_ (fun _ => ?_))
      | exact ih0 _ _ _ _
      | exact gf_Mul.mono _ _ _
      | exact LeO.none _
      | refine LeO.ite ?_ ?_
      | refine LeO.bind ?_ (fun _ => ?_)
theorem matrix_times.mono : ∀ a0 a1 k, LeO (matrix_times.f k a0 a1) (matrix_times.f (k + 1) a0 a1) := by
  intro a0 a1 k
  have ih0 := matrix_times.mono_l k
  unfold matrix_times.f
  repeat' first
      | (with_reducible exact ih0 _ _ _ _)
      | (with_reducible exact gf_Mul.mono _ _ _)
      | (with_reducible exact LeO.refl _)
      | (with_reducible exact LeO.none _)
      | (with_reducible refine LeO.ite ?_ ?_)
      | (with_reducible refine LeO.bind ?_ (fun _ => ?_))
      | exact ih0 _ _ _ _
      | exact gf_Mul.mono _ _ _
      | exact LeO.none _
      | refine LeO.ite ?_ ?_
      | refine LeO.bind ?_ (fun _ => ?_)
set_option maxHeartbeats 8000000 in
set_option maxRecDepth 100000 in
theorem matrix_times.calls (k : Nat) (P0_ : Nat → Prop) (u9000_ : Value) (l0 : List Int) (a1 : Int) (r : List Int) (w0 w : World) (hB : Below w0.heap.size w0 w) (ho0 : Kd.R (Kd.int .u8) 5 w w0.heap.size P0_ u9000_ l0) (h : matrix_times.f k l0 a1 = some r) :
    Calls Try.prog 56 #[u9000_, .int .u8 a1] w fun e w' => e = .returned (.tuple #[]) ∧ Kd.R (Kd.int .u8) 5 w' w0.heap.size (fun k_ => (P0_ k_ ∨ w.heap.size ≤ k_)) u9000_ r ∧ Below w0.heap.size w0 w' ∧ Kept w w' (fun k_ => P0_ k_) := by
  have HO0 := Aside0.mk (show Kd.R (Kd.int .u8) 5 w w0.heap.size (fun k_ => (P0_ k_ ∨ w.heap.size ≤ k_)) u9000_ l0 from Kd.R_mono ho0 (fun k_ hk => (.inl hk)))
  have HK := Aside0.mk (Kept.refl w (fun k_ => P0_ k_))
  have HW0 := Aside0.mk hB.size
  have HB := Aside0.mk hB
  clear hB
  have H : (matrix_times.l0 k l0 a1 (l0.length : Int) 0) = some r := h
  clear h
  have H' := Aside0.mk H
  clear H
  obtain ⟨Ao3, co3, eo3⟩ := Kd.R_slice HO0.out
  subst eo3
  go_enter Try.func56, Try.ntmps56
  go_wp2
  go_loopg [7] k (fun kq v7 w' => ∃ (x0_1 : List Int) (x7_1 : Int), v7 = .int .i64 x7_1 ∧ Aside0 (matrix_times.l0 kq x0_1 a1 (l0.length : Int) x7_1 = some r) ∧ Aside0 (kq ≤ k) ∧ Aside0 (Kd.R (Kd.int .u8) 5 w' w0.heap.size (fun k_ => (P0_ k_ ∨ w.heap.size ≤ k_)) (.slice Ao3 l0.length co3) x0_1) ∧ Aside0 (Kept w w' (fun k_ => P0_ k_)) ∧ Aside0 (Below w0.heap.size w0 w'))
  case atStart => exact ⟨(l0), (0), (by first | rfl | (simp; done) | (simp [*]; done)), H', ⟨Nat.le_refl _⟩, ⟨by (with_reducible repeat (first | apply Kd.R_alloc | apply Kd.R_drewN | apply Kd.R_drew)); exact HO0.out⟩, ⟨by repeat (first | (with_reducible first | exact HK.out | apply Kept.alloc | apply Kept.drewN | apply Kept.drew) | exact HK.out)⟩, ⟨by repeat (first | (with_reducible first | exact HB.out | apply below_alloc | apply pw_below_drewN | apply below_drew1) | exact HB.out)⟩⟩
  case round =>
    clear H'
    try clear p2
    obtain ⟨x0_1, x7_1, rfl, HA, HK1, HO_0, HK, HB⟩ := hrel
    have hl0_1 := (Kd.R_reads' HO_0.out).1
    rw [hl0_1] at HO_0
    (try simp only [hl0_1])
    cases gk with
    | zero => exact absurd HA.out (by simp [matrix_times.l0])
    | succ k1 =>
      have H := HA.out
      clear HA
      simp only [matrix_times.l0] at H
      by_cases c4 : x7_1 < (l0.length : Int)
      · rw [if_pos c4] at H
        have c4b0 : decide (x7_1 < (l0.length : Int)) = true := decide_eq_true c4
        (try have c4b0L := c4b0); (try simp only [hl0_1] at c4b0L)
        clear c4
        by_cases c5 : 0 ≤ x7_1
        · rw [if_pos c5] at H
          have c5b0 : decide (0 ≤ x7_1) = true := decide_eq_true c5
          clear c5
          by_cases c6 : x7_1 < (x0_1.length : Int)
          · rw [if_pos c6] at H
            have c6b0 : decide (x7_1 < (x0_1.length : Int)) = true := decide_eq_true c6
            clear c6
            replace H := Option.bind_eq_some_iff.mp H
            obtain ⟨t123, A70, H⟩ := H
            replace H : (matrix_times.l0 k1 (x0_1.set (x7_1 : Int).toNat t123) a1 (l0.length : Int) (wrap64 (x7_1 + 1))) = some r := H
            have A7 := Aside0.mk A70
            clear A70
            obtain ⟨y124, hy124⟩ : ∃ y_ : List Int, y_ = (x0_1.set (x7_1 : Int).toNat t123) := ⟨_, rfl⟩
            replace H : (matrix_times.l0 k1 y124 a1 (l0.length : Int) (wrap64 (x7_1 + 1))) = some r := by first | (rw [hy124]; with_reducible exact H) | (have H2_ := (Option.bind_some _ _).symm.trans H; rw [hy124]; with_reducible exact H2_) | (have H2_ := (Option.bind_some _ _).symm.trans H; with_reducible exact H2_) | with_reducible exact H | (rw [hy124]; exact H) | exact H
            have Ny124 := Aside0.mk hy124
            clear hy124
            have H' := Aside0.mk H
            clear H
            have p122 : 0 ≤ (x7_1 : Int) := of_decide_eq_true (by first | (with_reducible assumption) | assumption)
            have q122 : x7_1 < (x0_1.length : Int) := of_decide_eq_true (by first | (with_reducible assumption) | assumption)
            obtain ⟨ad122, e122, hx122_0⟩ := Kd.at_int (Kd.R_reads' HO_0.out).2.2 x7_1 p122 q122
            cases e122
            replace p122 := eq_true p122
            replace q122 := eq_true q122
            go_wp2_with (first | ((with_reducible refine gate_callee (f := 49) rfl ?_); refine goesL_ (some 17) rfl rfl Try.func49 (by kernel_rfl) rfl #[.int .u8 (rd x0_1 x7_1), .int .u8 a1] rfl (by (try simp only [List.map_toArray, List.map_cons, List.map_nil]); first | done | rfl | (simp only [List.length_drop, List.length_take]; rfl)) ?_; (with_reducible refine (gf_Mul.calls k1 (rd x0_1 x7_1) a1 t123 _ A7.out).mono ?_); rintro e w' ⟨rfl, ⟨nd, rfl⟩⟩; refine ⟨_, rfl, ?_⟩; (try (rw [drewN_self wr]; generalize hq_ : World.drewN wr _ = wr; have n0_ : Aside0 (Kd.R (Kd.int .u8) 5 wr w0.heap.size (fun k_ => (P0_ k_ ∨ w.heap.size ≤ k_)) (.slice (some ad122) x0_1.length co3) x0_1) := ⟨by rw [← hq_]; exact (by (with_reducible repeat (first | apply Kd.R_alloc | apply Kd.R_drewN | apply Kd.R_drew)); exact HO_0.out)⟩; have n1_ : Aside0 (Kept w wr (fun k_ => P0_ k_)) := ⟨by rw [← hq_]; exact (by repeat (first | (with_reducible first | exact HK.out | apply Kept.alloc | apply Kept.drewN | apply Kept.drew) | exact HK.out))⟩; have n2_ : Aside0 (Below w0.heap.size w0 wr) := ⟨by rw [← hq_]; exact (by repeat (first | (with_reducible first | exact HB.out | apply below_alloc | apply pw_below_drewN | apply below_drew1) | exact HB.out))⟩; clear HO_0 HK HB hq_; have HO_0 := n0_; have HK := n1_; have HB := n2_; clear n0_ n1_ n2_)); have p8 : 0 ≤ (x7_1 : Int) := of_decide_eq_true (by first | (with_reducible assumption) | assumption); have q8 : (x7_1 : Int) < ((x0_1.length : Int) : Int) := of_decide_eq_true (by first | (with_reducible assumption) | assumption); obtain ⟨go8, co8, eo8, gb8, gl8, cl8, HG8⟩ := Kd.R_form HO_0.out (by omega); (first | cases eo8 | (injection eo8 with ea_ en_ ec_; (first | subst ea_ | (injection ea_ with ea_; subst ea_)); subst ec_; clear en_)); have GB8 := Aside0.mk gb8; have GG8 := Aside0.mk HG8; clear gb8 gl8 HG8; have HMgo8 := Aside0.mk (show (P0_ go8 ∨ w.heap.size ≤ go8) from (HO_0.out.1 _ rfl)); (first | simp only [add_plain] at hx122_0 | skip); obtain ⟨hx8_0, hf8_0⟩ := Kd.R_celln 0 HO_0.out (x7_1 : Int) p8 q8; replace p8 := eq_true p8; replace q8 := eq_true q8; obtain ⟨hy9_, hz9_⟩ := Kd.R_celln 0 HO_0.out (x7_1 : Int) (of_decide_eq_true (by first | (with_reducible assumption) | assumption)) (of_decide_eq_true (by first | (with_reducible assumption) | assumption)); have HP9 := Kd.R_putg HO_0.out (x7_1 : Int) t123) | ((with_reducible refine gate_store (t := 5) (p := 18) rfl ?_); refine store_event (t := 5) (p := 18) (v := ?vo_w10) (w1 := (wr.setCell ⟨go8, (x7_1 : Int).toNat, none⟩ (.int .u8 t123))) ?hg ?ho ?hn ?hr ?_; (case ho => rfl); (case hg => rfl); (case hn => rfl); (case hr => first | (go_simp; done) | (go_simp; rfl)); intro w10 hw; have hg : wr.grownBy w10 (some go8) := (by rw [hw]; exact HP9.2); have hp_ : Kd.R (Kd.int .u8) 5 w10 w0.heap.size (fun k_ => (P0_ k_ ∨ w.heap.size ≤ k_)) (.slice (some ⟨go8, 0, none⟩) x0_1.length co3) y124 := (by rw [hw, Ny124.out]; exact HP9.1); clear HP9; have n0_ := Aside0.mk (hp_); have n1_ := Aside0.mk ((by rw [hw]; exact below_set (HB.out) GB8.out : Below w0.heap.size w0 w10)); have n2_ := Aside0.mk (Kept.of_grown (S := (fun k_ => P0_ k_)) hg (by repeat (first | (with_reducible first | exact HK.out | apply Kept.alloc | apply Kept.drewN | apply Kept.drew) | exact HK.out)) (fun k_ e_ => (HO_0.out.1 k_ e_))); clear HO_0; clear HB; clear HK; have HO_0 := n0_; have HB := n1_; have HK := n2_; clear n0_ n1_ n2_; clear hg hw hp_))
            (try simp only [← hl0_1])
            go_roundg k1
            case measure => have := HK1.out; omega
            case rel => exact ⟨(y124), (wrap64 (x7_1 + 1)), (by first | rfl | (simp; done) | (simp [*]; done)), H', ⟨by have := HK1.out; omega⟩, ⟨by (try simp only [hl0_1]); (with_reducible repeat (first | apply Kd.R_alloc | apply Kd.R_drewN | apply Kd.R_drew)); exact HO_0.out⟩, ⟨by repeat (first | (with_reducible first | exact HK.out | apply Kept.alloc | apply Kept.drewN | apply Kept.drew) | exact HK.out)⟩, ⟨by repeat (first | (with_reducible first | exact HB.out | apply below_alloc | apply pw_below_drewN | apply below_drew1) | exact HB.out)⟩⟩
          · rw [if_neg c6] at H
            exact absurd H (by simp)
        · rw [if_neg c5] at H
          exact absurd H (by simp)
      · rw [if_neg c4] at H
        have c4b0 : decide (x7_1 < (l0.length : Int)) = false := decide_eq_false c4
        (try have c4b0L := c4b0); (try simp only [hl0_1] at c4b0L)
        clear c4
        obtain rfl := Option.some.inj H
        go_wp2
        first | go_end0 | ((try simp only [Exit.inBlock, Exit.then]); refine bodyPost_ret (results_none rfl _ _ _) rfl ?_)
        exact ⟨by first | rfl | (simp [errW_none, errW_some] <;> rfl) | (simp [*, errW_none, errW_some] <;> rfl), (by first | exact (by (with_reducible repeat (first | apply Kd.R_alloc | apply Kd.R_drewN | apply Kd.R_drew)); exact HO_0.out) | (simp only [hl0_1]; exact (by (with_reducible repeat (first | apply Kd.R_alloc | apply Kd.R_drewN | apply Kd.R_drew)); exact HO_0.out))), by repeat (first | (with_reducible first | exact HB.out | apply below_alloc | apply pw_below_drewN | apply below_drew1) | exact HB.out), by repeat (first | (with_reducible first | exact HK.out | apply Kept.alloc | apply Kept.drewN | apply Kept.drew) | exact HK.out)⟩

end Go.Proofs.Ythhncoogmncdkaa.PC
-- written by the session's own program (wip/prt.py) over the kit's print: not print.sh's own text
namespace Go.Proofs.Ythhncoogmncdkaa.PC
open Go.RowKit Go.Proofs.YthhncoogmncdkaaW.PrintWords Go.Proofs.YthhncoogmncdkaaW.PrintLast Go.Proofs.YthhncoogmncdkaaW.PrintMore
attribute [local go_sem] max2_int min2_int max_two min_two max_three min_three max_four min_four   -- for this text's walks alone
set_option linter.unusedVariables false
set_option linter.unusedSimpArgs false

/-! ### matrix_solve: function 41 -/
def matrix_solve.find (M : List (List Int)) (j : Nat) : Nat → Nat → Nat
  | 0, i => i
  | d + 1, i => if rd (rw_ M i) (j : Int) ≠ 0 then i else matrix_solve.find M j d (i + 1)
def matrix_solve.clear (k : Nat) (j n : Nat) : Nat → Nat → List (List Int) → List (List Int) → Option (List (List Int) × List (List Int))
  | 0, _, M, B => some (M, B)
  | d + 1, i, M, B =>
    if i ≠ n ∧ rd (rw_ M i) (j : Int) ≠ 0 then (matrix_plus.f k (rw_ M i) (rd (rw_ M i) (j : Int)) (rw_ M n)).bind fun r => (matrix_plus.f k (rw_ B i) (rd (rw_ M i) (j : Int)) (rw_ B n)).bind fun s => matrix_solve.clear k j n d (i + 1) (M.set i r) (B.set i s)
    else matrix_solve.clear k j n d (i + 1) M B
def matrix_solve.cols (k : Nat) : Nat → Nat → Nat → List (List Int) → List (List Int) → Option (List (List Int) × List (List Int) × Nat)
  | 0, _, n, M, B => some (M, B, n)
  | d + 1, j, n, M, B => if matrix_solve.find M j (M.length - n) n = M.length then matrix_solve.cols k d (j + 1) n M B else
    (gf_Inv.f (rd (rw_ (swL M (matrix_solve.find M j (M.length - n) n) n) n) (j : Int))).bind fun c =>
    (matrix_times.f k (rw_ (swL M (matrix_solve.find M j (M.length - n) n) n) n) c.1).bind fun r =>
    (matrix_times.f k (rw_ (swL B (matrix_solve.find M j (M.length - n) n) n) n) c.1).bind fun s =>
    (matrix_solve.clear k j n M.length 0 ((swL M (matrix_solve.find M j (M.length - n) n) n).set n r) ((swL B (matrix_solve.find M j (M.length - n) n) n).set n s)).bind fun q => matrix_solve.cols k d (j + 1) (n + 1) q.1 q.2
def matrix_solve.ok (m m2 : Nat) (M B : List (List Int)) : Prop := 0 < M.length ∧ M.length ≤ 100 ∧ B.length = M.length ∧ 0 < m ∧ m ≤ 100 ∧ 0 < m2 ∧ m2 ≤ 100
def matrix_solve.f (k : Nat) (M B : List (List Int)) : Option (List (List Int) × List (List Int) × Nat) := matrix_solve.cols k (rw_ M 0).length 0 0 M B
theorem matrix_solve.clear_mono (k j n : Nat) : ∀ d i M B, LeO (matrix_solve.clear k j n d i M B) (matrix_solve.clear (k + 1) j n d i M B)
  | 0, _, _, _ => LeO.refl _
  | d + 1, i, M, B => LeO.ite (LeO.bind (matrix_plus.mono _ _ _ _) (fun _ => LeO.bind (matrix_plus.mono _ _ _ _) (fun _ => matrix_solve.clear_mono k j n d _ _ _))) (matrix_solve.clear_mono k j n d _ _ _)
theorem matrix_solve.cols_mono (k : Nat) : ∀ d j n M B, LeO (matrix_solve.cols k d j n M B) (matrix_solve.cols (k + 1) d j n M B)
  | 0, _, _, _, _ => LeO.refl _
  | d + 1, j, n, M, B => LeO.ite (matrix_solve.cols_mono k d _ _ _ _) (LeO.bind (LeO.refl _) (fun _ => LeO.bind (matrix_times.mono _ _ _) (fun _ => LeO.bind (matrix_times.mono _ _ _) (fun _ => LeO.bind (matrix_solve.clear_mono k _ _ _ _ _ _) (fun _ => matrix_solve.cols_mono k d _ _ _ _)))))
theorem matrix_solve.mono : ∀ a0 a1 k, LeO (matrix_solve.f k a0 a1) (matrix_solve.f (k + 1) a0 a1) := fun a0 a1 k => matrix_solve.cols_mono k _ _ _ _ _
theorem matrix_solve.find_ge (M : List (List Int)) (j : Nat) : ∀ d i, i ≤ matrix_solve.find M j d i ∧ matrix_solve.find M j d i ≤ i + d
  | 0, i => ⟨Nat.le_refl _, Nat.le_refl _⟩
  | d + 1, i => by
    unfold matrix_solve.find
    split
    · omega
    · have := matrix_solve.find_ge M j d (i + 1); omega
set_option maxHeartbeats 16000000 in
set_option maxRecDepth 100000 in
theorem matrix_solve.calls (k : Nat) (S1 S2 : Nat → Prop) (g g2 cap cap2 m m2 : Nat) (b c b2 c2 : Nat → Nat) (M B M' B' : List (List Int)) (r : Nat) (w0 w : World) (hB : Below w0.heap.size w0 w)
    (h1 : Mat w S1 g cap b c M m) (h2 : Mat w S2 g2 cap2 b2 c2 B m2) (hs1 : ∀ k, S1 k → w0.heap.size ≤ k ∧ ¬ S2 k) (hs2 : ∀ k, S2 k → w0.heap.size ≤ k ∧ ¬ S1 k)
    (hok : matrix_solve.ok m m2 M B) (h : matrix_solve.f k M B = some (M', B', r)) :
    Calls Try.prog 41 #[.slice (some ⟨g, 0, none⟩) M.length cap, .slice (some ⟨g2, 0, none⟩) B.length cap2] w fun e w' => e = .returned (.int .i64 r) ∧ (∃ b c b2 c2, Mat w' S1 g cap b c M' m ∧ Mat w' S2 g2 cap2 b2 c2 B' m2) ∧ M'.length = M.length ∧ B'.length = B.length ∧ Below w0.heap.size w0 w' := by
  obtain ⟨o1, o2, o3, o4, o5, o6, o7⟩ := hok
  unfold matrix_solve.f at h
  rw [h1.len o1] at h
  have O2 := Lib.hid o2
  have O3 := Lib.hid o3
  have O5 := Lib.hid o5
  have O7 := Lib.hid o7
  have HS1 := Lib.hid hs1
  have HS2 := Lib.hid hs2
  have HB := Lib.hid hB
  have H1 := Lib.hid h1
  have H2 := Lib.hid h2
  have H := Lib.hid h
  have hx0 := h1.out o1
  have hp : (0 : Int) < (M.length : Int) := by omega
  obtain ⟨n0, hn0⟩ : ∃ n0, n0 = M.length := ⟨_, rfl⟩
  have HN0 := Lib.hid hn0
  clear o2 o3 o5 o7 hs1 hs2 hB h1 h2 h hn0
  rw [O3.out]
  go_enter Try.func41, Try.ntmps41
  go_wp2_with fail
  go_step3
  go_wp2_with fail
  go_step3
  go_wp2_with fail
  go_loopg [5, 16] m (fun gk s5 s16 wx => ∃ (j n : Nat) (b c b2 c2 : Nat → Nat) (M1 B1 : List (List Int)), j + gk = m ∧ s16 = .int .i64 j ∧ s5 = .int .i64 n ∧ n ≤ M.length ∧ Aside0 (M1.length = M.length ∧ B1.length = M.length) ∧ Aside0 (Mat wx S1 g cap b c M1 m) ∧ Aside0 (Mat wx S2 g2 cap2 b2 c2 B1 m2) ∧ Aside0 (Below w0.heap.size w0 wx) ∧ Aside0 (matrix_solve.cols k gk j n M1 B1 = some (M', B', r)))
  case atStart => exact ⟨0, 0, b, c, b2, c2, M, B, by omega, rfl, rfl, by omega, ⟨rfl, O3.out⟩, ⟨H1.out⟩, ⟨H2.out⟩, ⟨HB.out⟩, ⟨H.out⟩⟩
  case round =>
    clear H1 H2 HB H hx0
    obtain ⟨j, n, b, c, b2, c2, M1, B1, hjg, rfl, rfl, hn, HL, H1, H2, HB, H⟩ := hrel
    cases gk with
    | zero =>
      obtain rfl : j = m := by omega
      have h : some (M1, B1, n) = some (M', B', r) := H.out
      simp only [Option.some.injEq, Prod.mk.injEq] at h
      obtain ⟨rfl, rfl, rfl⟩ := h
      go_wp2_with fail
      rw [Exit.noGoto_ret]
      go_ret
      exact ⟨rfl, ⟨_, _, _, _, H1.out, H2.out⟩, HL.out.1, HL.out.2, HB.out⟩
    | succ gko =>
      have hj1 : (j : Int) < (m : Int) := by omega
      obtain ⟨at_, hat⟩ : ∃ at_, at_ = matrix_solve.find M1 j (M1.length - n) n := ⟨_, rfl⟩
      have HAT := Lib.hid hat
      have h := H.out
      unfold matrix_solve.cols at h
      rw [← hat] at h
      replace H := Lib.hid h
      clear h hat
      go_upto_block 2 with fail
      go_cut [7] (fun v7 wc => v7 = .int .i64 at_ ∧ wc = wr)
      case first =>
        have hr := HL.out.1
        have hat := HAT.out
        rw [hr] at hat
        have HR := Lib.hid hr
        have HAT2 := Lib.hid hat
        clear hr hat
        go_wp2_with fail
        go_loopg [7] (M.length - n) (fun g7 s7 wx => ∃ i : Nat, i + g7 = M.length ∧ n ≤ i ∧ s7 = .int .i64 i ∧ wx = wr ∧ Aside0 (at_ = matrix_solve.find M1 j g7 i))
        case atStart => exact ⟨n, by omega, Nat.le_refl _, rfl, rfl, ⟨HAT2.out⟩⟩
        case round =>
          obtain ⟨i, hig, hni, rfl, rfl, HF⟩ := hrel
          have hl : (i : Int) ≤ (M.length : Int) := by omega
          cases gk with
          | zero =>
            obtain rfl : i = M.length := by omega
            go_wp2_with fail
            go_meet
            case rel => exact ⟨by rw [HF.out]; rfl, rfl⟩
          | succ d =>
            have hi : i < M1.length := by have := HR.out; omega
            have hx1 := H1.out.out hi
            have hx2 := H1.out.at_ hi (j := j) (by omega)
            have hi1 : (i : Int) < (M.length : Int) := by omega
            have hf := HF.out
            unfold matrix_solve.find at hf
            by_cases hz : rd (rw_ M1 i) (j : Int) = 0
            case pos =>
              rw [if_neg (by simpa using hz)] at hf
              have HF2 := Lib.hid hf
              have hz1 : (rd (rw_ M1 i) (j : Int) != 0) = false := bne_eq_false_iff_eq.mpr hz
              clear hf hz HF
              go_wp2_with fail
              go_roundg d
              case measure => omega
              case rel => exact ⟨i + 1, by omega, by omega, by have := O2.out; rw [show wrap64 ((i : Int) + 1) = ((i + 1 : Nat) : Int) by unfold wrap64; omega], rfl, ⟨HF2.out⟩⟩
            case neg =>
              rw [if_pos hz] at hf
              have hz1 : (rd (rw_ M1 i) (j : Int) != 0) = true := bne_iff_ne.mpr hz
              subst hf
              clear hz HF
              go_wp2_with fail
              go_meet
              case rel => exact ⟨rfl, rfl⟩
      case rest =>
        obtain ⟨rfl, rfl⟩ := hcut
        have hfg := matrix_solve.find_ge M1 j (M1.length - n) n
        rw [← HAT.out] at hfg
        have hl1 := HL.out.1
        have hl2 := HL.out.2
        by_cases he : at_ = M.length
        case pos =>
          have h := H.out
          rw [if_pos (by omega)] at h
          have H3 := Lib.hid h
          have he1 : ((at_ : Int) == (M.length : Int)) = true := beq_iff_eq.mpr (by omega)
          clear h H hfg hl1 hl2 he HAT
          go_wp2_with fail
          go_roundg gko
          case measure => omega
          case rel => exact ⟨j + 1, n, b, c, b2, c2, M1, B1, by omega, by have := O5.out; rw [show wrap64 ((j : Int) + 1) = ((j + 1 : Nat) : Int) by unfold wrap64; omega], rfl, hn, ⟨HL.out⟩, ⟨H1.out⟩, ⟨H2.out⟩, ⟨HB.out⟩, ⟨H3.out⟩⟩
        case neg =>
          have h := H.out
          rw [if_neg (by omega)] at h
          have H3 := Lib.hid h
          have he1 : ((at_ : Int) == (M.length : Int)) = false := beq_eq_false_iff_ne.mpr (by omega)
          have ha1 : at_ < M1.length := by omega
          have hn1 : n < M1.length := by omega
          have hai : (at_ : Int) < (M.length : Int) := by omega
          have hni : (n : Int) < (M.length : Int) := by omega
          have HA1 := Lib.hid ha1
          have HN1 := Lib.hid hn1
          have HN2 := Lib.hid (show n < B1.length by omega)
          have HA2 := Lib.hid (show at_ < B1.length by omega)
          have hx1 := H1.out.out ha1
          have hx2 := H1.out.out hn1
          have hf1 := H1.out.outF at_
          have hf2 := H1.out.outF n
          obtain ⟨⟨X, hX⟩, hXf⟩ := H1.out.mid ha1 hn1 (.slice (some ⟨b n, 0, none⟩) m (c n))
          clear h H hfg hl1 hl2 he HAT ha1 hn1
          go_upto_region 10 with fail
          go_region
          clear hx1 hx2 hf1 hf2 hX hXf
          replace H2 := Aside0.mk ((H2.out.keep (W' := (wc.setCell ⟨g, at_, none⟩ (.slice (some ⟨b n, 0, none⟩) m (c n))).setCell ⟨g, n, none⟩ (.slice (some ⟨b at_, 0, none⟩) m (c at_))) (fun k hk => (Below.heap_setCell _ ⟨g, n, none⟩ _ k (fun z => (HS2.out k hk).2 (z ▸ H1.out.2.1))).trans (Below.heap_setCell _ ⟨g, at_, none⟩ _ k (fun z => (HS2.out k hk).2 (z ▸ H1.out.2.1))))).below (below_drew (Below.refl _ _)))
          replace HB := Aside0.mk (below_drew (below_set (g := g) (j := n) (v := .slice (some ⟨b at_, 0, none⟩) m (c at_)) (below_set (g := g) (j := at_) (v := .slice (some ⟨b n, 0, none⟩) m (c n)) HB.out (HS1.out g H1.out.2.1).1) (HS1.out g H1.out.2.1).1))
          replace H1 := Aside0.mk ((H1.out.swap HA1.out HN1.out).below (below_drew (Below.refl _ _)))
          generalize ((wc.setCell ⟨g, at_, none⟩ (.slice (some ⟨b n, 0, none⟩) m (c n))).setCell ⟨g, n, none⟩ (.slice (some ⟨b at_, 0, none⟩) m (c at_))).drew = w1 at H1 H2 HB ⊢
          have hx1 := H2.out.out HA2.out
          have hx2 := H2.out.out HN2.out
          have hf1 := H2.out.outF at_
          have hf2 := H2.out.outF n
          obtain ⟨⟨X, hX⟩, hXf⟩ := H2.out.mid HA2.out HN2.out (.slice (some ⟨b2 n, 0, none⟩) m2 (c2 n))
          go_upto_region 11 with fail
          go_region
          clear hx1 hx2 hf1 hf2 hX hXf
          replace H1 := Aside0.mk ((H1.out.keep (W' := (w1.setCell ⟨g2, at_, none⟩ (.slice (some ⟨b2 n, 0, none⟩) m2 (c2 n))).setCell ⟨g2, n, none⟩ (.slice (some ⟨b2 at_, 0, none⟩) m2 (c2 at_))) (fun k hk => (Below.heap_setCell _ ⟨g2, n, none⟩ _ k (fun z => (HS1.out k hk).2 (z ▸ H2.out.2.1))).trans (Below.heap_setCell _ ⟨g2, at_, none⟩ _ k (fun z => (HS1.out k hk).2 (z ▸ H2.out.2.1))))).below (below_drew (Below.refl _ _)))
          replace HB := Aside0.mk (below_drew (below_set (g := g2) (j := n) (v := .slice (some ⟨b2 at_, 0, none⟩) m2 (c2 at_)) (below_set (g := g2) (j := at_) (v := .slice (some ⟨b2 n, 0, none⟩) m2 (c2 n)) HB.out (HS2.out g2 H2.out.2.1).1) (HS2.out g2 H2.out.2.1).1))
          replace H2 := Aside0.mk ((H2.out.swap HA2.out HN2.out).below (below_drew (Below.refl _ _)))
          generalize ((w1.setCell ⟨g2, at_, none⟩ (.slice (some ⟨b2 n, 0, none⟩) m2 (c2 n))).setCell ⟨g2, n, none⟩ (.slice (some ⟨b2 at_, 0, none⟩) m2 (c2 at_))).drew = w2 at H1 H2 HB ⊢
          have HLS := Lib.hid (show (swL M1 at_ n).length = M.length ∧ (swL B1 at_ n).length = M.length by rw [swL_len, swL_len]; exact HL.out)
          obtain ⟨⟨ci, ce⟩, hc, h⟩ := Option.bind_eq_some_iff.mp H3.out
          obtain ⟨r1, hr1, h⟩ := Option.bind_eq_some_iff.mp h
          obtain ⟨s1, hs1, h⟩ := Option.bind_eq_some_iff.mp h
          obtain ⟨⟨M3, B3⟩, hq, h⟩ := Option.bind_eq_some_iff.mp h
          simp only at hr1 hs1 hq h
          have HC := Lib.hid hc
          have HR1 := Lib.hid hr1
          have HR2 := Lib.hid hs1
          have HQ := Lib.hid hq
          have H4 := Lib.hid h
          clear hc hr1 hs1 hq H3 HA1 HA2
          clear h
          replace HN1 := Lib.hid (show n < (swL M1 at_ n).length by rw [HLS.out.1]; omega)
          replace HN2 := Lib.hid (show n < (swL B1 at_ n).length by rw [HLS.out.2]; omega)
          generalize swL M1 at_ n = M2 at *
          generalize swL B1 at_ n = B2 at *
          generalize swp at_ n b = b at *
          generalize swp at_ n c = c at *
          generalize swp at_ n b2 = b2 at *
          generalize swp at_ n c2 = c2 at *
          have hx1 := H1.out.out HN1.out
          have hx2 := H1.out.at_ HN1.out (j := j) (by omega)
          go_wp2_with fail
          clear hx1 hx2
          refine (gf_Inv.calls _ ci ce _ HC.out).mono ?_
          rintro e w3 ⟨rfl, hb⟩
          replace H1 := Aside0.mk (H1.out.below hb)
          replace H2 := Aside0.mk (H2.out.below hb)
          replace HB := Aside0.mk (below_step HB.out hb)
          clear hb
          have hx1 := H1.out.out HN1.out
          go_wp2_with fail
          clear hx1
          refine (matrix_times.calls k (fun k => k = b n) (.slice (some ⟨b n, 0, none⟩) m (c n)) (rw_ M2 n) ci r1 w0 _ HB.out (H1.out.R HN1.out (HS1.out _ (H1.out.own HN1.out)).1) HR1.out).mono ?_
          rintro e w4 ⟨rfl, ho, hb, hkp⟩
          replace H2 := Aside0.mk (H2.out.kept hkp (fun k hk z => (HS2.out k hk).2 (by rw [z]; exact H1.out.own HN1.out)))
          replace H1 := Aside0.mk (H1.out.setrow HN1.out ho (fun k hk hlt hne => hkp.2 k hlt hne))
          replace HB := Aside0.mk hb
          clear hb hkp ho
          have hx1 := H2.out.out HN2.out
          go_wp2_with fail
          clear hx1
          refine (matrix_times.calls k (fun k => k = b2 n) (.slice (some ⟨b2 n, 0, none⟩) m2 (c2 n)) (rw_ B2 n) ci s1 w0 _ HB.out (H2.out.R HN2.out (HS2.out _ (H2.out.own HN2.out)).1) HR2.out).mono ?_
          rintro e w5 ⟨rfl, ho, hb, hkp⟩
          replace H1 := Aside0.mk (H1.out.kept hkp (fun k hk z => (HS1.out k hk).2 (by rw [z]; exact H2.out.own HN2.out)))
          replace H2 := Aside0.mk (H2.out.setrow HN2.out ho (fun k hk hlt hne => hkp.2 k hlt hne))
          replace HB := Aside0.mk hb
          clear hb hkp ho HR1 HR2 HC
          have HN3 := Lib.hid (show n < (M2.set n r1).length by rw [List.length_set]; exact HN1.out)
          have HN4 := Lib.hid (show n < (B2.set n s1).length by rw [List.length_set]; exact HN2.out)
          have HL2 := Lib.hid (show (M2.set n r1).length = M.length ∧ (B2.set n s1).length = M.length by rw [List.length_set, List.length_set]; exact HLS.out)
          rw [HL.out.1] at HQ
          clear HN1 HN2 HLS HL
          generalize M2.set n r1 = M2 at *
          generalize B2.set n s1 = B2 at *
          go_wp2_with fail
          go_loopg [91] M.length (fun g9 s91 wx => ∃ (i : Nat) (M4 B4 : List (List Int)), i + g9 = M.length ∧ s91 = .int .i64 i ∧ Aside0 (M4.length = M.length ∧ B4.length = M.length) ∧ Aside0 (Mat wx S1 g cap b c M4 m) ∧ Aside0 (Mat wx S2 g2 cap2 b2 c2 B4 m2) ∧ Aside0 (Below w0.heap.size w0 wx) ∧ Aside0 (matrix_solve.clear k j n g9 i M4 B4 = some (M3, B3)))
          case atStart => exact ⟨0, M2, B2, by omega, rfl, ⟨HL2.out⟩, ⟨H1.out⟩, ⟨H2.out⟩, ⟨HB.out⟩, ⟨HQ.out⟩⟩
          case round =>
            clear H1 H2 HB HL2 HQ HN3 HN4
            obtain ⟨i, M4, B4, hig, rfl, HL, H1, H2, HB, HQ⟩ := hrel
            cases gk with
            | zero =>
              obtain rfl : i = M.length := by omega
              have h : some (M4, B4) = some (M3, B3) := HQ.out
              injection h with h
              injection h with e1 e2
              subst e1 e2
              clear HQ
              go_wp2_with fail
              go_roundg gko
              case measure => omega
              case rel => exact ⟨j + 1, n + 1, b, c, b2, c2, M4, B4, by omega, by have := O5.out; rw [show wrap64 ((j : Int) + 1) = ((j + 1 : Nat) : Int) by unfold wrap64; omega], by have := O2.out; rw [show wrap64 ((n : Int) + 1) = ((n + 1 : Nat) : Int) by unfold wrap64; omega], by omega, ⟨HL.out⟩, ⟨H1.out⟩, ⟨H2.out⟩, ⟨HB.out⟩, ⟨H4.out⟩⟩
            | succ d =>
              have hi1 : (i : Int) < (M.length : Int) := by omega
              have HI := Lib.hid (show i < M4.length by rw [HL.out.1]; omega)
              have HI2 := Lib.hid (show i < B4.length by rw [HL.out.2]; omega)
              have hx1 := H1.out.out HI.out
              have hx2 := H1.out.at_ HI.out (j := j) (by omega)
              have hq := HQ.out
              unfold matrix_solve.clear at hq
              by_cases hin : i = n
              case pos =>
                rw [if_neg (fun z => z.1 hin)] at hq
                have hin1 : ((i : Int) != (n : Int)) = false := bne_eq_false_iff_eq.mpr (by omega)
                replace HQ := Aside0.mk hq
                clear hq hin
                go_wp2_with fail
                go_roundg d
                case measure => omega
                case rel => exact ⟨i + 1, M4, B4, by omega, by have := O2.out; rw [show wrap64 ((i : Int) + 1) = ((i + 1 : Nat) : Int) by unfold wrap64; omega], ⟨HL.out⟩, ⟨H1.out⟩, ⟨H2.out⟩, ⟨HB.out⟩, ⟨HQ.out⟩⟩
              case neg =>
                have hin1 : ((i : Int) != (n : Int)) = true := bne_iff_ne.mpr (by omega)
                by_cases hz : rd (rw_ M4 i) (j : Int) = 0
                case pos =>
                  rw [if_neg (fun z => z.2 hz)] at hq
                  have hz1 : (rd (rw_ M4 i) (j : Int) != 0) = false := bne_eq_false_iff_eq.mpr hz
                  replace HQ := Aside0.mk hq
                  clear hq hin hz
                  go_wp2_with fail
                  go_roundg d
                  case measure => omega
                  case rel => exact ⟨i + 1, M4, B4, by omega, by have := O2.out; rw [show wrap64 ((i : Int) + 1) = ((i + 1 : Nat) : Int) by unfold wrap64; omega], ⟨HL.out⟩, ⟨H1.out⟩, ⟨H2.out⟩, ⟨HB.out⟩, ⟨HQ.out⟩⟩
                case neg =>
                  rw [if_pos ⟨hin, hz⟩] at hq
                  obtain ⟨r2, hr2, hq⟩ := Option.bind_eq_some_iff.mp hq
                  obtain ⟨s2, hs2, hq⟩ := Option.bind_eq_some_iff.mp hq
                  have hz1 : (rd (rw_ M4 i) (j : Int) != 0) = true := bne_iff_ne.mpr hz
                  have HR2 := Lib.hid hr2
                  have HT2 := Lib.hid hs2
                  replace HQ := Aside0.mk hq
                  have HIN := Lib.hid hin
                  have HN3 := Lib.hid (show n < M4.length by rw [HL.out.1]; omega)
                  have HN4 := Lib.hid (show n < B4.length by rw [HL.out.2]; omega)
                  have hx3 := H1.out.out HN3.out
                  clear hq hin hz hr2 hs2
                  go_wp2_with fail
                  go_still_tail 9, (by kernel_rfl)
                  change wpList _ _ _ _ _ wr.drew
                  clear hx1 hx2 hx3 hin1 hz1
                  replace H1 := Aside0.mk (H1.out.below (below_drew (Below.refl _ _)))
                  replace H2 := Aside0.mk (H2.out.below (below_drew (Below.refl _ _)))
                  replace HB := Aside0.mk (below_drew HB.out)
                  generalize wr.drew = wd at H1 H2 HB ⊢
                  go_wp2_with fail
                  have hC := matrix_plus.calls k (fun k => k = b i) (.slice (some ⟨b i, 0, none⟩) m (c i)) (rw_ M4 i) (rd (rw_ M4 i) (j : Int)) _ _ (rw_ M4 n) r2 w0 _ HB.out (H1.out.R HI.out (HS1.out _ (H1.out.own HI.out)).1) (H1.out.other HI.out HN3.out HIN.out) (H1.out.C HN3.out).2 HR2.out
                  rw [H1.out.len HN3.out] at hC
                  refine hC.mono ?_
                  clear hC
                  rintro e w4 ⟨rfl, ho, hb, hkp⟩
                  replace H2 := Aside0.mk (H2.out.kept hkp (fun k hk z => (HS2.out k hk).2 (by rw [z]; exact H1.out.own HI.out)))
                  replace H1 := Aside0.mk (H1.out.setrow HI.out ho (fun k hk hlt hne => hkp.2 k hlt hne))
                  replace HB := Aside0.mk hb
                  clear hb hkp ho HR2
                  have hx1 := H2.out.out HI2.out
                  have hx3 := H2.out.out HN4.out
                  go_wp2_with fail
                  go_still_tail 9, (by kernel_rfl)
                  change wpList _ _ _ _ _ w4.drew
                  clear hx1 hx3
                  replace H1 := Aside0.mk (H1.out.below (below_drew (Below.refl _ _)))
                  replace H2 := Aside0.mk (H2.out.below (below_drew (Below.refl _ _)))
                  replace HB := Aside0.mk (below_drew HB.out)
                  generalize w4.drew = wd2 at H1 H2 HB ⊢
                  go_wp2_with fail
                  have hC := matrix_plus.calls k (fun k => k = b2 i) (.slice (some ⟨b2 i, 0, none⟩) m2 (c2 i)) (rw_ B4 i) (rd (rw_ M4 i) (j : Int)) _ _ (rw_ B4 n) s2 w0 _ HB.out (H2.out.R HI2.out (HS2.out _ (H2.out.own HI2.out)).1) (H2.out.other HI2.out HN4.out HIN.out) (H2.out.C HN4.out).2 HT2.out
                  rw [H2.out.len HN4.out] at hC
                  refine hC.mono ?_
                  clear hC
                  rintro e w5 ⟨rfl, ho, hb, hkp⟩
                  replace H1 := Aside0.mk (H1.out.kept hkp (fun k hk z => (HS1.out k hk).2 (by rw [z]; exact H2.out.own HI2.out)))
                  replace H2 := Aside0.mk (H2.out.setrow HI2.out ho (fun k hk hlt hne => hkp.2 k hlt hne))
                  replace HB := Aside0.mk hb
                  clear hb hkp ho HT2
                  go_wp2_with fail
                  go_roundg d
                  case measure => omega
                  case rel => exact ⟨i + 1, M4.set i r2, B4.set i s2, by omega, by have := O2.out; rw [show wrap64 ((i : Int) + 1) = ((i + 1 : Nat) : Int) by unfold wrap64; omega], ⟨by rw [List.length_set, List.length_set]; exact HL.out⟩, ⟨H1.out⟩, ⟨H2.out⟩, ⟨HB.out⟩, ⟨HQ.out⟩⟩

/-! ### slices_Clone_byte_byte: function 51 -/
theorem slices_Clone_byte_byte.info : (Try.prog.info? 5).map (fun i => (i.zero, i.size, i.bytes)) = some (some (.int .u8 0), 1, 1) := by kernel_rfl
theorem slices_Clone_byte_byte.eql_nil (a : Option Addr) (n c n' c' : Nat) (w : World) : (binOp .eql 23 (.slice a n c) (.slice none n' c')).run Try.prog w = .ok (.bool a.isNone) w := by
  simp only [binOp]
  simp [Op.equal, Op.maxDepth, Lib.run_equalIn_slice_nil w 9999 23 5 a n c n' c' Try.underlying23]
def slices_Clone_byte_byte.f (l0 : List Int) : Option (List Int) := if l0.length < 140737488355328 then some l0 else none
set_option maxHeartbeats 400000 in
theorem slices_Clone_byte_byte.calls (A0 : Option Addr) (c0 : Nat) (l0 : List Int) (r : List Int) (w : World) (hr0 : Kd.C (Kd.int .u8) w A0 l0.length l0) (hc0 : l0.length ≤ c0) (h : slices_Clone_byte_byte.f l0 = some r) :
    Calls Try.prog 51 #[.slice A0 l0.length c0] w fun e w' => ∃ v0_ : Value, e = .returned (v0_) ∧ Kd.R (Kd.int .u8) 5 w' w.heap.size (fun _ => True) v0_ r ∧ Below w.heap.size w w' := by
  unfold slices_Clone_byte_byte.f at h
  split at h
  · rename_i hlim
    injection h with h
    subst h
    cases A0 with
    | none =>
      have hl : l0.length = 0 := by
        rcases Nat.eq_zero_or_pos l0.length with h | h
        · exact h
        · obtain ⟨ad, h1, _⟩ := hr0.2.2 h; cases h1
      obtain rfl := List.length_eq_zero_iff.1 hl
      have he := slices_Clone_byte_byte.eql_nil none 0 c0 0 0 w
      go_enter Try.func51, Try.ntmps51
      go_wp2_with fail
      go_ret
      exact ⟨_, rfl, Kd.R_nil _ _ _ _ _, Below.refl _ _⟩
    | some ad =>
      have HR := Lib.hid hr0
      have HL := Lib.hid hlim
      have he := slices_Clone_byte_byte.eql_nil (some ad) l0.length c0 0 0 w
      have HO : (Kd.int .u8).R 5 (w.alloc (.cells #[] 5)) w.heap.size (fun _ => True) (.slice (some ⟨w.heap.size, 0, none⟩) 0 0) ([] : List Int) := Kd.R_of_own (own_lit w w.heap.size 5 .u8 [] (Nat.le_refl _) (by simp)) (fun _ _ => trivial)
      have HN := Lib.hid HO
      clear hr0 hc0 hlim HO
      go_enter Try.func51, Try.ntmps51
      go_wp2_with ((with_reducible refine gate_builtin (b := .append) (xs := #[.tmp 5, .tmp 6]) rfl ?_); at_builtin; refine Kd.R_append_rows (Kd.int .u8) (w0 := w) w.heap.size rfl (.tmp 5) (.tmp 6) 23 5 (.int .u8 0) 1 rfl Try.underlying23 slices_Clone_byte_byte.info rfl (by decide) (by omega) (.slice (some ⟨w.heap.size, 0, none⟩) 0 0) ([] : List Int) l0 _ _ _ (fun _ => True) (fun _ => False) rfl rfl HN.out ?aR (fun _ _ h => h) (fun _ h => h.elim) (fun _ _ => trivial) ?aB ?aS ?aL ?_; (case aR => exact Kd.C_alloc HR.out _); (case aB => exact below_alloc (Below.refl _ _) _); (case aS => exact (below_alloc (Below.refl _ _) _).size); (case aL => have := HL.out; simp; omega); intro v1 w1 ho hb hg hat; have HO2 := Lib.hid ho; have HB2 := Lib.hid hb; clear ho hb hg hat)
      go_ret
      exact ⟨_, rfl, HO2.out, HB2.out⟩
  · cases h

-- NOT PRINTED: function 58 (slices_Clone_uint8_uint8)

end Go.Proofs.Ythhncoogmncdkaa.PC
