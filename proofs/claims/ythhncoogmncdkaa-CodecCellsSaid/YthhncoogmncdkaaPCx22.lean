import Derived.Test.YthhncoogmncdkaaPCx0
import Derived.Test.YthhncoogmncdkaaPCx19
-- written by the session's own program (wip/prt.py) over the kit's print: not print.sh's own text
namespace Go.Proofs.Ythhncoogmncdkaa.PC
open Go.RowKit Go.Proofs.YthhncoogmncdkaaW.PrintWords Go.Proofs.YthhncoogmncdkaaW.PrintLast Go.Proofs.YthhncoogmncdkaaW.PrintMore
attribute [local go_sem] max2_int min2_int max_two min_two max_three min_three max_four min_four   -- for this text's walks alone
set_option linter.unusedVariables false
set_option linter.unusedSimpArgs false

/-! ### twoslotref03_blank: function 43 -/
def twoslotref03_blank.l0 : Nat → Int → Int → List (List Int) → Int → Option ((List (List Int)))
  | 0, _, _, _, _ => none
  | k + 1, x0, x1, x5, x6 => if x6 < x0 then (if 0 ≤ x1 then (if (x1 : Int).toNat ≤ 281474976710656 then (if x5.length < 5864062014805 then (twoslotref03_blank.l0 k x0 x1 (x5 ++ [(List.replicate (x1 : Int).toNat 0)]) (wrap64 (x6 + 1))) else (none)) else (none)) else (none)) else (some x5)
def twoslotref03_blank.f (k : Nat) (a0 : Int) (a1 : Int) : Option ((List (List Int))) := twoslotref03_blank.l0 k a0 a1 ([] : List (List Int)) 0
theorem twoslotref03_blank.mono_l : ∀ k, (∀ y0 y1 y2 y3, LeO (twoslotref03_blank.l0 k y0 y1 y2 y3) (twoslotref03_blank.l0 (k + 1) y0 y1 y2 y3))
  | 0 => fun _ _ _ _ r h => by simp [twoslotref03_blank.l0] at h
  | k + 1 => by
    have ih0 := twoslotref03_blank.mono_l k
    · intro y0 y1 y2 y3
      unfold twoslotref03_blank.l0
      repeat' first
      | (with_reducible exact ih0 _ _ _ _)
      | (with_reducible exact LeO.refl _)
      | (with_reducible exact LeO.none _)
      | (with_reducible refine LeO.ite ?_ ?_)
      | (with_reducible refine LeO.bind ?_ (fun _ => ?_))
      | exact ih0 _ _ _ _
      | exact LeO.none _
      | refine LeO.ite ?_ ?_
      | refine LeO.bind ?_ (fun _ => ?_)
theorem twoslotref03_blank.mono : ∀ a0 a1 k, LeO (twoslotref03_blank.f k a0 a1) (twoslotref03_blank.f (k + 1) a0 a1) := by
  intro a0 a1 k
  have ih0 := twoslotref03_blank.mono_l k
  unfold twoslotref03_blank.f
  repeat' first
      | (with_reducible exact ih0 _ _ _ _)
      | (with_reducible exact LeO.refl _)
      | (with_reducible exact LeO.none _)
      | (with_reducible refine LeO.ite ?_ ?_)
      | (with_reducible refine LeO.bind ?_ (fun _ => ?_))
      | exact ih0 _ _ _ _
      | exact LeO.none _
      | refine LeO.ite ?_ ?_
      | refine LeO.bind ?_ (fun _ => ?_)
set_option maxHeartbeats 8000000 in
set_option maxRecDepth 100000 in
theorem twoslotref03_blank.calls (k : Nat) (a0 : Int) (a1 : Int) (r : List (List Int)) (w : World) (h : twoslotref03_blank.f k a0 a1 = some r) :
    Calls Try.prog 43 #[.int .i64 a0, .int .i64 a1] w fun e w' => ∃ v0_ : Value, e = .returned (v0_) ∧ Kd.S (Kd.slice 5 (Kd.int .u8)) 23 w' w.heap.size (fun _ => True) v0_ r ∧ Below w.heap.size w w' := by
  have HB := Aside0.mk (Below.refl w.heap.size w)
  have H : (twoslotref03_blank.l0 k a0 a1 ([] : List (List Int)) 0) = some r := h
  clear h
  have H' := Aside0.mk H
  clear H
  go_enter Try.func43, Try.ntmps43
  go_wp2
  go_loopg [5, 6] k (fun kq v5 v6 w' => ∃ (x5_1 : List (List Int)) (x6_1 : Int), v6 = .int .i64 x6_1 ∧ Aside0 (twoslotref03_blank.l0 kq a0 a1 x5_1 x6_1 = some r) ∧ Aside0 (kq ≤ k) ∧ Aside0 (Kd.S (Kd.slice 5 (Kd.int .u8)) 23 w' w.heap.size (fun _ => True) v5 x5_1) ∧ Aside0 (Below w.heap.size w w'))
  case atStart => exact ⟨(([] : List (List Int))), (0), (by first | rfl | (simp; done) | (simp [*]; done)), H', ⟨Nat.le_refl _⟩, ⟨by first | exact Kd.S_nil _ _ _ _ _ | exact Kd.N_nil _ _ _ _ _ | exact Kd.V_nil _ _ _ _ _ | exact Kd.Q_nil _ _ _ _ _ | exact Kd.R_nil _ _ _ _ _⟩, ⟨by repeat (first | (with_reducible first | exact HB.out | apply below_alloc | apply pw_below_drewN | apply below_drew1) | exact HB.out)⟩⟩
  case round =>
    clear H'
    try clear p2
    obtain ⟨x5_1, x6_1, rfl, HA, HK1, HO_5, HB⟩ := hrel
    cases gk with
    | zero => exact absurd HA.out (by simp [twoslotref03_blank.l0])
    | succ k1 =>
      have H := HA.out
      clear HA
      simp only [twoslotref03_blank.l0] at H
      by_cases c3 : x6_1 < a0
      · rw [if_pos c3] at H
        have c3b0 : decide (x6_1 < a0) = true := decide_eq_true c3
        clear c3
        by_cases c4 : 0 ≤ a1
        · rw [if_pos c4] at H
          have c4b0 := eq_true c4
          have c4b1 : decide (0 ≤ a1) = true := decide_eq_true c4
          clear c4
          by_cases c5 : (a1 : Int).toNat ≤ 281474976710656
          · rw [if_pos c5] at H
            have c5b0 := eq_true c5
            have c5b1 : decide ((a1 : Int).toNat ≤ 281474976710656) = true := decide_eq_true c5
            clear c5
            obtain ⟨y159, hy159⟩ : ∃ y_ : List Int, y_ = (List.replicate (a1 : Int).toNat 0) := ⟨_, rfl⟩
            replace H : (if x5_1.length < 5864062014805 then (twoslotref03_blank.l0 k1 a0 a1 (x5_1 ++ [y159]) (wrap64 (x6_1 + 1))) else (none)) = some r := by first | (rw [hy159]; with_reducible exact H) | (have H2_ := (Option.bind_some _ _).symm.trans H; rw [hy159]; with_reducible exact H2_) | (have H2_ := (Option.bind_some _ _).symm.trans H; with_reducible exact H2_) | with_reducible exact H | (rw [hy159]; exact H) | exact H
            have Ny159 := Aside0.mk hy159
            clear hy159
            by_cases c6 : x5_1.length < 5864062014805
            · rw [if_pos c6] at H
              have LMc6 := Aside0.mk c6
              clear c6
              obtain ⟨y162, hy162⟩ : ∃ y_ : List (List Int), y_ = (x5_1 ++ [y159]) := ⟨_, rfl⟩
              replace H : (twoslotref03_blank.l0 k1 a0 a1 y162 (wrap64 (x6_1 + 1))) = some r := by first | (rw [hy162]; with_reducible exact H) | (have H2_ := (Option.bind_some _ _).symm.trans H; rw [hy162]; with_reducible exact H2_) | (have H2_ := (Option.bind_some _ _).symm.trans H; with_reducible exact H2_) | with_reducible exact H | (rw [hy162]; exact H) | exact H
              have Ny162 := Aside0.mk hy162
              clear hy162
              have H' := Aside0.mk H
              clear H
              go_wp2_with (first | ((with_reducible refine gate_dst (N := 14) rfl ?_); refine Kd.R_make (Kd.int .u8) _ 5 rfl (N := 14) rfl 23 _ _ rfl a1 rfl rfl Try.underlying23 (.int .u8 0) 1 info5 rfl (by decide) (by omega) 0 (ok := fun _ => True) (okp := fun _ => True) rfl (fun _ hk => hk) trivial (of_decide_eq_true (by first | (with_reducible assumption) | assumption)) (Nat.le_trans (Nat.mul_le_mul_right _ (of_decide_eq_true (by first | (with_reducible assumption) | assumption) : a1.toNat ≤ 281474976710656)) (by omega)) (Below.refl _ _) (Nat.le_refl _) ?_; intro v160 w7 ho8 hb hg_ hnew_; clear hg_ hnew_; (first | rw [← Ny159.out] at ho8 | (simp only [Int.reduceToNat] at ho8; rw [← Ny159.out] at ho8)); have n0_ := Aside0.mk (Kd.S_elder' (by (with_reducible repeat (first | apply Kd.S_alloc | apply Kd.S_drewN | apply Kd.S_drew)); exact HO_5.out) (Kd.R_base ho8) hb); have n1_ := Aside0.mk (Kd.R_lower ho8 (below_size (by repeat (first | (with_reducible first | exact HB.out | apply below_alloc | apply pw_below_drewN | apply below_drew1) | exact HB.out)))); have n2_ := Aside0.mk (below_step (by repeat (first | (with_reducible first | exact HB.out | apply below_alloc | apply pw_below_drewN | apply below_drew1) | exact HB.out)) hb); clear HO_5; clear HB; have HO_5 := n0_; have HO161 := n1_; have HB := n2_; clear n0_ n1_ n2_; clear hb ho8; obtain ⟨Ao10, co10, eo10⟩ := Kd.R_slice HO161.out; subst eo10) | ((with_reducible refine gate_builtin (b := .append) (xs := #[.tmp 12, .tmp 15]) rfl ?_); at_builtin; refine Kd.S_append (Kd.slice 5 (Kd.int .u8)) (w0 := w) w.heap.size rfl (.tmp 12) (.tmp 15) 24 23 (.slice none 0 0) 24 rfl Try.underlying24 info23 rfl (by decide) (by omega) u5 x5_1 y159 [.slice Ao10 y159.length co10] (fun _ => True) (fun k_ => some k_ = (.slice Ao10 y159.length co10 : Value).ownBlock) rfl rfl ?aP (fun k_ hk_ => ((Kd.R_mono (ok' := fun k_ => ((fun _ => True)) k_ ∧ some k_ ≠ (u5 : Value).ownBlock) (Kd.R_apart' (HO161.out) (Kd.S_typed HO_5.out) (by decide)) (fun k_ hk => ⟨trivial, hk.2⟩))).1 k_ hk_.symm) ?aF ?aO ?aB ?aS ?aL ?_; (case aP => exact Kd.M_row (Kd.R_mono (Kd.R_tight rfl (Kd.R_mono (ok' := fun k_ => ((fun _ => True)) k_ ∧ some k_ ≠ (u5 : Value).ownBlock) (Kd.R_apart' (HO161.out) (Kd.S_typed HO_5.out) (by decide)) (fun k_ hk => ⟨trivial, hk.2⟩))) (fun _ h_ => h_))); (case aB => exact (by repeat (first | (with_reducible first | exact HB.out | apply below_alloc | apply pw_below_drewN | apply below_drew1) | exact HB.out))); (case aF => exact (fun _ _ => trivial)); (case aO => exact (by (with_reducible repeat (first | apply Kd.S_alloc | apply Kd.S_drewN | apply Kd.S_drew)); exact Kd.S_mono HO_5.out (fun k_ hk => ⟨trivial, fun e_ => hk.2 e_⟩))); (case aS => exact (below_size (by repeat (first | (with_reducible first | exact HB.out | apply below_alloc | apply pw_below_drewN | apply below_drew1) | exact HB.out)))); (case aL => have := LMc6.out; omega); intro v163 w9 ho hb hg hat; rw [← Ny162.out] at ho; have n0_ := Aside0.mk (hb); have n1_ := Aside0.mk (ho); clear HB; clear HO_5; clear HO161; have HB := n0_; have HO164 := n1_; clear n0_ n1_; clear ho hb hg hat))
              go_roundg k1
              case measure => have := HK1.out; omega
              case rel => exact ⟨(y162), (wrap64 (x6_1 + 1)), (by first | rfl | (simp; done) | (simp [*]; done)), H', ⟨by have := HK1.out; omega⟩, ⟨by (with_reducible repeat (first | apply Kd.S_alloc | apply Kd.S_drewN | apply Kd.S_drew)); exact HO164.out⟩, ⟨by repeat (first | (with_reducible first | exact HB.out | apply below_alloc | apply pw_below_drewN | apply below_drew1) | exact HB.out)⟩⟩
            · rw [if_neg c6] at H
              exact absurd H (by simp)
          · rw [if_neg c5] at H
            exact absurd H (by simp)
        · rw [if_neg c4] at H
          exact absurd H (by simp)
      · rw [if_neg c3] at H
        have c3b0 : decide (x6_1 < a0) = false := decide_eq_false c3
        clear c3
        obtain rfl := Option.some.inj H
        go_wp2
        go_ret
        exact ⟨_, by first | rfl | (simp [errW_none, errW_some] <;> rfl) | (simp [*, errW_none, errW_some] <;> rfl), by (with_reducible repeat (first | apply Kd.S_alloc | apply Kd.S_drewN | apply Kd.S_drew)); exact HO_5.out, by repeat (first | (with_reducible first | exact HB.out | apply below_alloc | apply pw_below_drewN | apply below_drew1) | exact HB.out)⟩

/-! ### twoslotref03_steps: function 46 -/
def twoslotref03_steps.find (M : List (List Int)) (j : Nat) : Nat → Nat → Nat
  | 0, i => i
  | d + 1, i => if rd (rw_ M i) (j : Int) = 0 then twoslotref03_steps.find M j d (i + 1) else i
def twoslotref03_steps.clear (k : Nat) (j n : Nat) : Nat → Nat → List (List Int) → Option (List (List Int))
  | 0, _, M => some M
  | d + 1, i, M =>
    if i = n then twoslotref03_steps.clear k j n d (i + 1) M else (twoslotref03_cleared.f k (rw_ M i) (rw_ M n) (j : Int)).bind fun r => twoslotref03_steps.clear k j n d (i + 1) (M.set i r)
def twoslotref03_steps.cols (k : Nat) : Nat → Nat → Nat → List (List Int) → Option (List (List Int) × Nat)
  | 0, _, n, M => some (M, n)
  | d + 1, j, n, M => if n < M.length then (if twoslotref03_steps.find M j (M.length - n) n = M.length then twoslotref03_steps.cols k d (j + 1) n M else
    (twoslotref03_steps.clear k j n M.length 0 (swL M (twoslotref03_steps.find M j (M.length - n) n) n)).bind fun q => twoslotref03_steps.cols k d (j + 1) (n + 1) q) else some (M, n)
def twoslotref03_steps.f (k : Nat) (M : List (List Int)) (cols : Nat) : Option (List (List Int) × Nat) := twoslotref03_steps.cols k cols 0 0 M
theorem twoslotref03_steps.clear_mono (k j n : Nat) : ∀ d i M, LeO (twoslotref03_steps.clear k j n d i M) (twoslotref03_steps.clear (k + 1) j n d i M)
  | 0, _, _ => LeO.refl _
  | d + 1, i, M => LeO.ite (twoslotref03_steps.clear_mono k j n d _ _) (LeO.bind (twoslotref03_cleared.mono _ _ _ _) (fun _ => twoslotref03_steps.clear_mono k j n d _ _))
theorem twoslotref03_steps.cols_mono (k : Nat) : ∀ d j n M, LeO (twoslotref03_steps.cols k d j n M) (twoslotref03_steps.cols (k + 1) d j n M)
  | 0, _, _, _ => LeO.refl _
  | d + 1, j, n, M => LeO.ite (LeO.ite (twoslotref03_steps.cols_mono k d _ _ _) (LeO.bind (twoslotref03_steps.clear_mono k _ _ _ _ _) (fun _ => twoslotref03_steps.cols_mono k d _ _ _))) (LeO.refl _)
theorem twoslotref03_steps.mono : ∀ a0 a1 k, LeO (twoslotref03_steps.f k a0 a1) (twoslotref03_steps.f (k + 1) a0 a1) := fun a0 a1 k => twoslotref03_steps.cols_mono k _ _ _ _
theorem twoslotref03_steps.find_ge (M : List (List Int)) (j : Nat) : ∀ d i, i ≤ twoslotref03_steps.find M j d i ∧ twoslotref03_steps.find M j d i ≤ i + d
  | 0, i => ⟨Nat.le_refl _, Nat.le_refl _⟩
  | d + 1, i => by
    unfold twoslotref03_steps.find
    split
    · have := twoslotref03_steps.find_ge M j d (i + 1); omega
    · omega
set_option maxHeartbeats 16000000 in
set_option maxRecDepth 100000 in
theorem twoslotref03_steps.calls (k : Nat) (S1 : Nat → Prop) (g cap m cols : Nat) (b c : Nat → Nat) (M M' : List (List Int)) (r : Nat) (w0 w : World) (hB : Below w0.heap.size w0 w)
    (h1 : Mat w S1 g cap b c M m) (hs1 : ∀ k, S1 k → w0.heap.size ≤ k) (o2 : M.length ≤ 100) (o4 : cols ≤ m) (o5 : m ≤ 1000) (h : twoslotref03_steps.f k M cols = some (M', r)) :
    Calls Try.prog 46 #[.slice (some ⟨g, 0, none⟩) M.length cap, .int .i64 cols] w fun e w' => e = .returned (.int .i64 r) ∧ (∃ b c, Mat w' S1 g cap b c M' m) ∧ M'.length = M.length ∧ Below w0.heap.size w0 w' := by
  unfold twoslotref03_steps.f at h
  have O2 := Lib.hid o2
  have O4 := Lib.hid o4
  have O5 := Lib.hid o5
  have HS1 := Lib.hid hs1
  have HB := Lib.hid hB
  have H1 := Lib.hid h1
  have H := Lib.hid h
  clear o2 o4 o5 hs1 hB h1 h
  go_enter Try.func46, Try.ntmps46
  go_wp2_with fail
  go_loopg [5, 6] cols (fun gk s5 s6 wx => ∃ (j n : Nat) (b c : Nat → Nat) (M1 : List (List Int)), j + gk = cols ∧ s6 = .int .i64 j ∧ s5 = .int .i64 n ∧ n ≤ M.length ∧ Aside0 (M1.length = M.length) ∧ Aside0 (Mat wx S1 g cap b c M1 m) ∧ Aside0 (Below w0.heap.size w0 wx) ∧ Aside0 (twoslotref03_steps.cols k gk j n M1 = some (M', r)))
  case atStart => exact ⟨0, 0, b, c, M, by omega, rfl, rfl, by omega, ⟨rfl⟩, ⟨H1.out⟩, ⟨HB.out⟩, ⟨H.out⟩⟩
  case round =>
    clear H1 HB H
    obtain ⟨j, n, b, c, M1, hjg, rfl, rfl, hn, HL, H1, HB, H⟩ := hrel
    cases gk with
    | zero =>
      obtain rfl : j = cols := by omega
      have h : some (M1, n) = some (M', r) := H.out
      simp only [Option.some.injEq, Prod.mk.injEq] at h
      obtain ⟨rfl, rfl⟩ := h
      go_wp2_with fail
      go_ret
      exact ⟨rfl, ⟨_, _, H1.out⟩, HL.out, HB.out⟩
    | succ gko =>
      have hj1 : (j : Int) < (cols : Int) := by omega
      have HJM := Lib.hid (show (j : Int) < (m : Int) by have := O4.out; omega)
      have h := H.out
      unfold twoslotref03_steps.cols at h
      by_cases hnl : n < M1.length
      case neg =>
        rw [if_neg hnl] at h
        simp only [Option.some.injEq, Prod.mk.injEq] at h
        obtain ⟨rfl, rfl⟩ := h
        have hnl2 : (M.length : Int) ≤ (n : Int) := by have := HL.out; omega
        clear H hnl
        go_wp2_with fail
        go_ret
        exact ⟨rfl, ⟨_, _, H1.out⟩, HL.out, HB.out⟩
      rw [if_pos hnl] at h
      have hn1 : (n : Int) < (M.length : Int) := by have := HL.out; omega
      obtain ⟨at_, hat⟩ : ∃ at_, at_ = twoslotref03_steps.find M1 j (M1.length - n) n := ⟨_, rfl⟩
      have HAT := Lib.hid hat
      rw [← hat] at h
      replace H := Lib.hid h
      have HN1 := Lib.hid hnl
      clear h hat hnl
      go_upto_block 2 with fail
      go_cut [7] (fun v7 wc => v7 = .int .i64 at_ ∧ wc = wr)
      case first =>
        have hr := HL.out
        have hat := HAT.out
        rw [hr] at hat
        have HR := Lib.hid hr
        have HAT2 := Lib.hid hat
        clear hr hat
        go_wp2_with fail
        go_loopg [7] (M.length - n) (fun g7 s7 wx => ∃ i : Nat, i + g7 = M.length ∧ n ≤ i ∧ s7 = .int .i64 i ∧ wx = wr ∧ Aside0 (at_ = twoslotref03_steps.find M1 j g7 i))
        case atStart => exact ⟨n, by omega, Nat.le_refl _, rfl, rfl, ⟨HAT2.out⟩⟩
        case round =>
          obtain ⟨i, hig, hni, rfl, rfl, HF⟩ := hrel
          have hl : (i : Int) ≤ (M.length : Int) := by omega
          cases gk with
          | zero =>
            obtain rfl : i = M.length := by omega
            go_wp2_with fail
            go_meet
            case rel => exact ⟨by rw [HF.out]; rfl, rfl⟩
          | succ d =>
            have hi : i < M1.length := by have := HR.out; omega
            have hx1 := H1.out.out hi
            have hx2 := H1.out.at_ hi (j := j) (by have := HJM.out; omega)
            have hi1 : (i : Int) < (M.length : Int) := by omega
            have hjm := HJM.out
            have hf := HF.out
            unfold twoslotref03_steps.find at hf
            by_cases hz : rd (rw_ M1 i) (j : Int) = 0
            case pos =>
              rw [if_pos hz] at hf
              have HF2 := Lib.hid hf
              have hz1 : (rd (rw_ M1 i) (j : Int) == 0) = true := beq_iff_eq.mpr hz
              clear hf hz HF
              go_wp2_with fail
              go_roundg d
              case measure => omega
              case rel => exact ⟨i + 1, by omega, by omega, by have := O2.out; rw [show wrap64 ((i : Int) + 1) = ((i + 1 : Nat) : Int) by unfold wrap64; omega], rfl, ⟨HF2.out⟩⟩
            case neg =>
              rw [if_neg hz] at hf
              have hz1 : (rd (rw_ M1 i) (j : Int) == 0) = false := beq_eq_false_iff_ne.mpr hz
              subst hf
              clear hz HF
              go_wp2_with fail
              go_meet
              case rel => exact ⟨rfl, rfl⟩
      case rest =>
        obtain ⟨rfl, rfl⟩ := hcut
        have hfg := twoslotref03_steps.find_ge M1 j (M1.length - n) n
        rw [← HAT.out] at hfg
        have hl1 := HL.out
        by_cases he : at_ = M.length
        case pos =>
          have h := H.out
          rw [if_pos (by omega)] at h
          have H3 := Lib.hid h
          have he1 : ((at_ : Int) == (M.length : Int)) = true := beq_iff_eq.mpr (by omega)
          clear h H hfg hl1 he HAT
          go_wp2_with fail
          go_roundg gko
          case measure => omega
          case rel => exact ⟨j + 1, n, b, c, M1, by omega, by have := O5.out; have := O4.out; rw [show wrap64 ((j : Int) + 1) = ((j + 1 : Nat) : Int) by unfold wrap64; omega], rfl, hn, ⟨HL.out⟩, ⟨H1.out⟩, ⟨HB.out⟩, ⟨H3.out⟩⟩
        case neg =>
          have h := H.out
          rw [if_neg (by omega)] at h
          obtain ⟨M3, hq, h⟩ := Option.bind_eq_some_iff.mp h
          have HQ := Lib.hid hq
          have H4 := Lib.hid h
          have he1 : ((at_ : Int) == (M.length : Int)) = false := beq_eq_false_iff_ne.mpr (by omega)
          have ha1 : at_ < M1.length := by omega
          have hai : (at_ : Int) < (M.length : Int) := by omega
          have HA1 := Lib.hid ha1
          have hx1 := H1.out.out ha1
          have hx2 := H1.out.out HN1.out
          have hf1 := H1.out.outF at_
          have hf2 := H1.out.outF n
          obtain ⟨⟨X, hX⟩, hXf⟩ := H1.out.mid ha1 HN1.out (.slice (some ⟨b n, 0, none⟩) m (c n))
          clear h hq H hfg hl1 he HAT ha1
          go_upto_region 12 with fail
          clear hx1 hx2 hf1 hf2 hX hXf
          replace HB := Aside0.mk (below_set (g := g) (j := n) (v := .slice (some ⟨b at_, 0, none⟩) m (c at_)) (below_set (g := g) (j := at_) (v := .slice (some ⟨b n, 0, none⟩) m (c n)) HB.out (HS1.out g H1.out.2.1)) (HS1.out g H1.out.2.1))
          replace H1 := Aside0.mk (H1.out.swap HA1.out HN1.out)
          generalize (wc.setCell ⟨g, at_, none⟩ (.slice (some ⟨b n, 0, none⟩) m (c n))).setCell ⟨g, n, none⟩ (.slice (some ⟨b at_, 0, none⟩) m (c at_)) = w1 at H1 HB ⊢
          have HLS := Lib.hid (show (swL M1 at_ n).length = M.length by rw [swL_len]; exact HL.out)
          rw [HL.out] at HQ
          clear HA1 HN1 HL he1
          generalize swL M1 at_ n = M2 at *
          generalize swp at_ n b = b at *
          generalize swp at_ n c = c at *
          go_wp2_with fail
          go_loopg [9] M.length (fun g9 s9 wx => ∃ (i : Nat) (M4 : List (List Int)), i + g9 = M.length ∧ s9 = .int .i64 i ∧ Aside0 (M4.length = M.length) ∧ Aside0 (Mat wx S1 g cap b c M4 m) ∧ Aside0 (Below w0.heap.size w0 wx) ∧ Aside0 (twoslotref03_steps.clear k j n g9 i M4 = some M3))
          case atStart => exact ⟨0, M2, by omega, rfl, ⟨HLS.out⟩, ⟨H1.out⟩, ⟨HB.out⟩, ⟨HQ.out⟩⟩
          case round =>
            clear H1 HB HLS HQ
            obtain ⟨i, M4, hig, rfl, HL, H1, HB, HQ⟩ := hrel
            have hl : (i : Int) ≤ (M.length : Int) := by omega
            cases gk with
            | zero =>
              obtain rfl : i = M.length := by omega
              have h : some M4 = some M3 := HQ.out
              injection h with e1
              subst e1
              clear HQ
              go_wp2_with fail
              go_roundg gko
              case measure => omega
              case rel => exact ⟨j + 1, n + 1, b, c, M4, by omega, by have := O5.out; have := O4.out; rw [show wrap64 ((j : Int) + 1) = ((j + 1 : Nat) : Int) by unfold wrap64; omega], by have := O2.out; rw [show wrap64 ((n : Int) + 1) = ((n + 1 : Nat) : Int) by unfold wrap64; omega], by omega, ⟨HL.out⟩, ⟨H1.out⟩, ⟨HB.out⟩, ⟨H4.out⟩⟩
            | succ d =>
              have hi1 : (i : Int) < (M.length : Int) := by omega
              have HI := Lib.hid (show i < M4.length by rw [HL.out]; omega)
              have HN3 := Lib.hid (show n < M4.length by rw [HL.out]; omega)
              have hx1 := H1.out.out HI.out
              have hx3 := H1.out.out HN3.out
              have hq := HQ.out
              unfold twoslotref03_steps.clear at hq
              by_cases hin : i = n
              case pos =>
                rw [if_pos hin] at hq
                have hin1 : ((i : Int) != (n : Int)) = false := bne_eq_false_iff_eq.mpr (by omega)
                replace HQ := Aside0.mk hq
                clear hq hin hx1 hx3
                go_wp2_with fail
                go_roundg d
                case measure => omega
                case rel => exact ⟨i + 1, M4, by omega, by have := O2.out; rw [show wrap64 ((i : Int) + 1) = ((i + 1 : Nat) : Int) by unfold wrap64; omega], ⟨HL.out⟩, ⟨H1.out⟩, ⟨HB.out⟩, ⟨HQ.out⟩⟩
              case neg =>
                have hin1 : ((i : Int) != (n : Int)) = true := bne_iff_ne.mpr (by omega)
                rw [if_neg hin] at hq
                obtain ⟨r2, hr2, hq⟩ := Option.bind_eq_some_iff.mp hq
                have HR2 := Lib.hid hr2
                replace HQ := Aside0.mk hq
                have HIN := Lib.hid hin
                clear hq hin hr2
                go_wp2_with fail
                go_still_tail 9, (by kernel_rfl)
                change wpList _ _ _ _ _ wr.drew
                clear hx1 hx3 hin1
                replace H1 := Aside0.mk (H1.out.below (below_drew (Below.refl _ _)))
                replace HB := Aside0.mk (below_drew HB.out)
                generalize wr.drew = wd at H1 HB ⊢
                go_wp2_with fail
                have hC := twoslotref03_cleared.calls k (fun k => k = b i) (.slice (some ⟨b i, 0, none⟩) m (c i)) (rw_ M4 i) _ _ (rw_ M4 n) (j : Int) r2 w0 _ HB.out (H1.out.R HI.out (HS1.out _ (H1.out.own HI.out))) (H1.out.other HI.out HN3.out HIN.out) (H1.out.C HN3.out).2 HR2.out
                rw [H1.out.len HN3.out] at hC
                refine hC.mono ?_
                clear hC
                rintro e w4 ⟨rfl, ho, hb, hkp⟩
                replace H1 := Aside0.mk (H1.out.setrow HI.out ho (fun k hk hlt hne => hkp.2 k hlt hne))
                replace HB := Aside0.mk hb
                clear hb hkp ho HR2
                go_wp2_with fail
                go_roundg d
                case measure => omega
                case rel => exact ⟨i + 1, M4.set i r2, by omega, by have := O2.out; rw [show wrap64 ((i : Int) + 1) = ((i + 1 : Nat) : Int) by unfold wrap64; omega], ⟨by rw [List.length_set]; exact HL.out⟩, ⟨H1.out⟩, ⟨HB.out⟩, ⟨HQ.out⟩⟩

/-! ### twoslotref04_may: function 29 -/
def twoslotref04_may.f (a0 : Int) (a1 : Int) : Option (Bool) := if a0 ≥ 1 then (if a0 ≤ 12 then (if a1 ≥ 0 then (some (decide (a1 ≤ 4))) else (some false)) else (some false)) else (some false)
set_option maxHeartbeats 8000000 in
set_option maxRecDepth 100000 in
theorem twoslotref04_may.calls (a0 : Int) (a1 : Int) (r : Bool) (w : World) (h : twoslotref04_may.f a0 a1 = some r) :
    Calls Try.prog 29 #[.int .i64 a0, .int .i64 a1] w fun e w' => e = .returned (.bool r) ∧ Drawn0 w w' := by
  have H : (if a0 ≥ 1 then (if a0 ≤ 12 then (if a1 ≥ 0 then (some (decide (a1 ≤ 4))) else (some false)) else (some false)) else (some false)) = some r := h
  clear h
  by_cases c3 : a0 ≥ 1
  · rw [if_pos c3] at H
    have c3b0 : decide (1 ≤ a0) = true := decide_eq_true c3
    clear c3
    by_cases c4 : a0 ≤ 12
    · rw [if_pos c4] at H
      have c4b0 : decide (a0 ≤ 12) = true := decide_eq_true c4
      clear c4
      by_cases c5 : a1 ≥ 0
      · rw [if_pos c5] at H
        have c5b0 : decide (0 ≤ a1) = true := decide_eq_true c5
        clear c5
        obtain rfl := Option.some.inj H
        go_enter Try.func29, Try.ntmps29
        go_wp2
        go_ret
        exact ⟨by first | rfl | (simp; done) | (simp [*]; done), by repeat (first | exact Drawn0.refl _ | apply Drawn0.step)⟩
      · rw [if_neg c5] at H
        have c5b0 : decide (0 ≤ a1) = false := decide_eq_false c5
        clear c5
        obtain rfl := Option.some.inj H
        go_enter Try.func29, Try.ntmps29
        go_wp2
        go_ret
        exact ⟨by first | rfl | (simp; done) | (simp [*]; done), by repeat (first | exact Drawn0.refl _ | apply Drawn0.step)⟩
    · rw [if_neg c4] at H
      have c4b0 : decide (a0 ≤ 12) = false := decide_eq_false c4
      clear c4
      obtain rfl := Option.some.inj H
      go_enter Try.func29, Try.ntmps29
      go_wp2
      go_ret
      exact ⟨by first | rfl | (simp; done) | (simp [*]; done), by repeat (first | exact Drawn0.refl _ | apply Drawn0.step)⟩
  · rw [if_neg c3] at H
    have c3b0 : decide (1 ≤ a0) = false := decide_eq_false c3
    clear c3
    obtain rfl := Option.some.inj H
    go_enter Try.func29, Try.ntmps29
    go_wp2
    go_ret
    exact ⟨by first | rfl | (simp; done) | (simp [*]; done), by repeat (first | exact Drawn0.refl _ | apply Drawn0.step)⟩

end Go.Proofs.Ythhncoogmncdkaa.PC
-- written by the session's own program (wip/prt.py) over the kit's print: not print.sh's own text
namespace Go.Proofs.Ythhncoogmncdkaa.PC
open Go.RowKit Go.Proofs.YthhncoogmncdkaaW.PrintWords Go.Proofs.YthhncoogmncdkaaW.PrintLast Go.Proofs.YthhncoogmncdkaaW.PrintMore
attribute [local go_sem] max2_int min2_int max_two min_two max_three min_three max_four min_four   -- for this text's walks alone
set_option linter.unusedVariables false
set_option linter.unusedSimpArgs false

/-! ### twoslotref03_Cauchy: function 30 -/
mutual
def twoslotref03_Cauchy.j0 : Nat → Int → Int → Bool → Option ((List (List Int)) × Int)
 | 0, _, _, _ => none
 | k + 1, x0, x1, x22 => if x22 = true then (some (([] : List (List Int)), 2)) else ((twoslotref03_blank.f k x1 x0).bind fun t165 => (twoslotref03_Cauchy.l0 k x0 x1 t165 0))
def twoslotref03_Cauchy.l0 : Nat → Int → Int → List (List Int) → Int → Option ((List (List Int)) × Int)
 | 0, _, _, _, _ => none
 | k + 1, x0, x1, x6, x7 => if x7 < x1 then (twoslotref03_Cauchy.l1 k x0 x1 x6 x7 0) else (some (x6, 0))
def twoslotref03_Cauchy.l1 : Nat → Int → Int → List (List Int) → Int → Int → Option ((List (List Int)) × Int)
 | 0, _, _, _, _, _ => none
 | k + 1, x0, x1, x6, x7, x8 => if x8 < x0 then (if 0 ≤ x7 then (if x7 < (x6.length : Int) then ((twoslotref01_Inv.f k (Go.bits .xor .u8 ((wrap64 (x0 + x7)) % 256) ((x8) % 256))).bind fun bt169 => (if 0 ≤ x8 then (if x8 < ((rd_L1 x6 x7).length : Int) then (twoslotref03_Cauchy.l1 k x0 x1 (x6.set (x7 : Int).toNat ((rd_L1 x6 x7).set (x8 : Int).toNat bt169.1)) x7 (wrap64 (x8 + 1))) else (none)) else (none))) else (none)) else (none)) else (twoslotref03_Cauchy.l0 k x0 x1 x6 (wrap64 (x7 + 1)))
end
def twoslotref03_Cauchy.f (k : Nat) (a0 : Int) (a1 : Int) : Option ((List (List Int)) × Int) := if a0 < 1 then (twoslotref03_Cauchy.j0 k a0 a1 true) else (if a0 > 12 then (twoslotref03_Cauchy.j0 k a0 a1 true) else (if a1 < 1 then (twoslotref03_Cauchy.j0 k a0 a1 true) else (twoslotref03_Cauchy.j0 k a0 a1 (decide (a1 > 4)))))
theorem twoslotref03_Cauchy.mono_l : ∀ k, (∀ y0 y1 y2, LeO (twoslotref03_Cauchy.j0 k y0 y1 y2) (twoslotref03_Cauchy.j0 (k + 1) y0 y1 y2)) ∧ (∀ y0 y1 y2 y3, LeO (twoslotref03_Cauchy.l0 k y0 y1 y2 y3) (twoslotref03_Cauchy.l0 (k + 1) y0 y1 y2 y3)) ∧ (∀ y0 y1 y2 y3 y4, LeO (twoslotref03_Cauchy.l1 k y0 y1 y2 y3 y4) (twoslotref03_Cauchy.l1 (k + 1) y0 y1 y2 y3 y4))
 | 0 => ⟨fun _ _ _ r h => by simp [twoslotref03_Cauchy.j0] at h, fun _ _ _ _ r h => by simp [twoslotref03_Cauchy.l0] at h, fun _ _ _ _ _ r h => by simp [twoslotref03_Cauchy.l1] at h⟩
 | k + 1 => by
  obtain ⟨ih0, ih1, ih2⟩ := twoslotref03_Cauchy.mono_l k
  refine ⟨?_, ?_, ?_⟩
  ·intro y0 y1 y2
   unfold twoslotref03_Cauchy.j0
   repeat' first
   | (with_reducible exact ih0 _ _ _)
   | (with_reducible exact ih1 _ _ _ _)
   | (with_reducible exact ih2 _ _ _ _ _)
   | (with_reducible exact twoslotref01_Inv.mono _ _)
   | (with_reducible exact twoslotref03_blank.mono _ _ _)
   | (with_reducible exact LeO.refl _)
   | (with_reducible exact LeO.none _)
   | (with_reducible refine LeO.ite ?_ ?_)
   | (with_reducible refine LeO.bind ?_ (fun _ => ?_))
   | exact ih0 _ _ _
   | exact ih1 _ _ _ _
   | exact ih2 _ _ _ _ _
   | exact twoslotref01_Inv.mono _ _
   | exact twoslotref03_blank.mono _ _ _
   | exact LeO.none _
   | refine LeO.ite ?_ ?_
   | refine LeO.bind ?_ (fun _ => ?_)
  ·intro y0 y1 y2 y3
   unfold twoslotref03_Cauchy.l0
   repeat' first
   | (with_reducible exact ih0 _ _ _)
   | (with_reducible exact ih1 _ _ _ _)
   | (with_reducible exact ih2 _ _ _ _ _)
   | (with_reducible exact twoslotref01_Inv.mono _ _)
   | (with_reducible exact twoslotref03_blank.mono _ _ _)
   | (with_reducible exact LeO.refl _)
   | (with_reducible exact LeO.none _)
   | (with_reducible refine LeO.ite ?_ ?_)
   | (with_reducible refine LeO.bind ?_ (fun _ => ?_))
   | exact ih0 _ _ _
   | exact ih1 _ _ _ _
   | exact ih2 _ _ _ _ _
   | exact twoslotref01_Inv.mono _ _
   | exact twoslotref03_blank.mono _ _ _
   | exact LeO.none _
   | refine LeO.ite ?_ ?_
   | refine LeO.bind ?_ (fun _ => ?_)
  ·intro y0 y1 y2 y3 y4
   unfold twoslotref03_Cauchy.l1
   repeat' first
   | (with_reducible exact ih0 _ _ _)
   | (with_reducible exact ih1 _ _ _ _)
   | (with_reducible exact ih2 _ _ _ _ _)
   | (with_reducible exact twoslotref01_Inv.mono _ _)
   | (with_reducible exact twoslotref03_blank.mono _ _ _)
   | (with_reducible exact LeO.refl _)
   | (with_reducible exact LeO.none _)
   | (with_reducible refine LeO.ite ?_ ?_)
   | (with_reducible refine LeO.bind ?_ (fun _ => ?_))
   | exact ih0 _ _ _
   | exact ih1 _ _ _ _
   | exact ih2 _ _ _ _ _
   | exact twoslotref01_Inv.mono _ _
   | exact twoslotref03_blank.mono _ _ _
   | exact LeO.none _
   | refine LeO.ite ?_ ?_
   | refine LeO.bind ?_ (fun _ => ?_)
theorem twoslotref03_Cauchy.mono : ∀ a0 a1 k, LeO (twoslotref03_Cauchy.f k a0 a1) (twoslotref03_Cauchy.f (k + 1) a0 a1) := by
 intro a0 a1 k
 obtain ⟨ih0, ih1, ih2⟩ := twoslotref03_Cauchy.mono_l k
 unfold twoslotref03_Cauchy.f
 repeat' first
   | (with_reducible exact ih0 _ _ _)
   | (with_reducible exact ih1 _ _ _ _)
   | (with_reducible exact ih2 _ _ _ _ _)
   | (with_reducible exact twoslotref01_Inv.mono _ _)
   | (with_reducible exact twoslotref03_blank.mono _ _ _)
   | (with_reducible exact LeO.refl _)
   | (with_reducible exact LeO.none _)
   | (with_reducible refine LeO.ite ?_ ?_)
   | (with_reducible refine LeO.bind ?_ (fun _ => ?_))
   | exact ih0 _ _ _
   | exact ih1 _ _ _ _
   | exact ih2 _ _ _ _ _
   | exact twoslotref01_Inv.mono _ _
   | exact twoslotref03_blank.mono _ _ _
   | exact LeO.none _
   | refine LeO.ite ?_ ?_
   | refine LeO.bind ?_ (fun _ => ?_)
def twoslotref03_Cauchy.T10 : Bool × List (List Nat × List Nat) := (true, [([], []), ([], []), ([0, 1], [0, 1]), ([2], [2]), ([], []), ([], []), ([], []), ([5, 6], [5, 6]), ([7], [7]), ([], []), ([9], [9]), ([8, 10], [8, 10]), ([11], [11]), ([12], [12]), ([13], [13]), ([13], [13]), ([3, 4, 0, 1, 2, 3, 4, 5, 6, 7, 8, 9, 10, 11, 12, 13, 14], [3, 4]), ([16, 14, 12, 0, 1, 2, 3, 4, 5, 6, 7, 8, 9, 10, 11, 12, 13, 14], [14, 16])])
def twoslotref03_Cauchy.B10 : List Nat := [0, 0, 3, 7, 0, 0, 0, 96, 224, 0, 512, 2016, 4064, 8160, 16352, 16352, 32767, 98303]
theorem twoslotref03_Cauchy.tab10 : rtab .any (opsOf Try.f30 10) = twoslotref03_Cauchy.T10 := by kernel_rfl
theorem twoslotref03_Cauchy.bits10 : waitsOk twoslotref03_Cauchy.T10.2 twoslotref03_Cauchy.B10 = true := by kernel_rfl
set_option maxHeartbeats 8000000 in
set_option maxRecDepth 100000 in
theorem twoslotref03_Cauchy.calls (k : Nat) (a0 : Int) (a1 : Int) (r1 : List (List Int)) (r2 : Int) (w : World) (h : twoslotref03_Cauchy.f k a0 a1 = some (r1, r2)) :
  Calls Try.prog 30 #[.int .i64 a0, .int .i64 a1] w fun e w' => ∃ v0_ : Value, e = .returned (.tuple #[v0_, .int .i64 r2]) ∧ Kd.S (Kd.slice 5 (Kd.int .u8)) 23 w' w.heap.size (fun _ => True) v0_ r1 ∧ Below w.heap.size w w' := by
 have HB := Aside0.mk (Below.refl w.heap.size w)
 have H : (if a0 < 1 then (twoslotref03_Cauchy.j0 k a0 a1 true) else (if a0 > 12 then (twoslotref03_Cauchy.j0 k a0 a1 true) else (if a1 < 1 then (twoslotref03_Cauchy.j0 k a0 a1 true) else (twoslotref03_Cauchy.j0 k a0 a1 (decide (a1 > 4)))))) = some (r1, r2) := h
 clear h
 have HC3 := Aside0.mk H
 clear H
 go_enter Try.func30, Try.ntmps30
 go_upto_region 1 with (fail)
 go_cut [22] (fun v22 wc => ∃ (kq : Nat) (x22_2 : Bool), v22 = .bool x22_2 ∧ Aside0 (twoslotref03_Cauchy.j0 kq a0 a1 x22_2 = some (r1, r2)) ∧ Aside0 (kq ≤ k) ∧ Aside0 (Below w.heap.size w wc))
 case first =>
  have H := HC3.out
  clear HC3
  by_cases c4 : a0 < 1
  ·rw [if_pos c4] at H
   have c4b0 : decide (a0 < 1) = true := decide_eq_true c4
   clear c4
   (first | rw [c4b0] | (simp only [i64_w, i32_w]; rw [c4b0]) | skip)
   have H' := Aside0.mk H
   clear H
   go_wp2
   go_meet
   case rel => exact ⟨_, (true), (by first | rfl | (simp; done) | (simp [*]; done)), H', ⟨by first | omega | exact Nat.le_refl _⟩, ⟨by repeat (first | (with_reducible first | exact HB.out | apply below_alloc | apply pw_below_drewN | apply below_drew1) | exact HB.out)⟩⟩
  ·rw [if_neg c4] at H
   have c4b0 : decide (a0 < 1) = false := decide_eq_false c4
   clear c4
   (first | rw [c4b0] | (simp only [i64_w, i32_w]; rw [c4b0]) | skip)
   by_cases c5 : a0 > 12
   ·rw [if_pos c5] at H
    have c5b0 : decide (12 < a0) = true := decide_eq_true c5
    clear c5
    have H' := Aside0.mk H
    clear H
    go_wp2
    go_meet
    case rel => exact ⟨_, (true), (by first | rfl | (simp; done) | (simp [*]; done)), H', ⟨by first | omega | exact Nat.le_refl _⟩, ⟨by repeat (first | (with_reducible first | exact HB.out | apply below_alloc | apply pw_below_drewN | apply below_drew1) | exact HB.out)⟩⟩
   ·rw [if_neg c5] at H
    have c5b0 : decide (12 < a0) = false := decide_eq_false c5
    clear c5
    by_cases c6 : a1 < 1
    ·rw [if_pos c6] at H
     have c6b0 : decide (a1 < 1) = true := decide_eq_true c6
     clear c6
     have H' := Aside0.mk H
     clear H
     go_wp2
     go_meet
     case rel => exact ⟨_, (true), (by first | rfl | (simp; done) | (simp [*]; done)), H', ⟨by first | omega | exact Nat.le_refl _⟩, ⟨by repeat (first | (with_reducible first | exact HB.out | apply below_alloc | apply pw_below_drewN | apply below_drew1) | exact HB.out)⟩⟩
    ·rw [if_neg c6] at H
     have c6b0 : decide (a1 < 1) = false := decide_eq_false c6
     clear c6
     have H' := Aside0.mk H
     clear H
     go_wp2
     go_meet
     case rel => exact ⟨_, (decide (a1 > 4)), (by first | rfl | (simp; done) | (simp [*]; done)), H', ⟨by first | omega | exact Nat.le_refl _⟩, ⟨by repeat (first | (with_reducible first | exact HB.out | apply below_alloc | apply pw_below_drewN | apply below_drew1) | exact HB.out)⟩⟩
 case rest =>
  clear HC3
  try clear p2
  try clear c3
  try clear c4
  try clear c4b0
  try clear c5
  try clear c5b0
  try clear c6
  try clear c6b0
  obtain ⟨kq, x22_2, rfl, HA, HJ2, HB⟩ := hcut
  cases kq with
  | zero => exact absurd HA.out (by simp [twoslotref03_Cauchy.j0])
  | succ kj2 =>
   have H := HA.out
   clear HA
   simp only [twoslotref03_Cauchy.j0] at H
   by_cases c7 : x22_2 = true
   ·subst c7
    have H1 : (some (([] : List (List Int)), 2)) = some (r1, r2) := by rw [if_pos rfl] at H; exact H
    clear H
    have H := H1
    clear H1
    simp only [Option.some.injEq, Prod.mk.injEq] at H
    obtain ⟨rfl, rfl⟩ := H
    go_wp2
    go_ret2
    exact ⟨_, by first | rfl | (simp [errW_none, errW_some] <;> rfl) | (simp [*, errW_none, errW_some] <;> rfl), by first | exact Kd.S_nil _ _ _ _ _ | exact Kd.N_nil _ _ _ _ _ | exact Kd.V_nil _ _ _ _ _ | exact Kd.Q_nil _ _ _ _ _ | exact Kd.R_nil _ _ _ _ _, by repeat (first | (with_reducible first | exact HB.out | apply below_alloc | apply pw_below_drewN | apply below_drew1) | exact HB.out)⟩
   ·replace c7 := Bool.eq_false_iff.mpr c7
    subst c7
    have H1 : ((twoslotref03_blank.f kj2 a1 a0).bind fun t165 => (twoslotref03_Cauchy.l0 kj2 a0 a1 t165 0)) = some (r1, r2) := by rw [if_neg (show ¬ (false = true) by decide)] at H; exact H
    clear H
    have H := H1
    clear H1
    replace H := Option.bind_eq_some_iff.mp H
    obtain ⟨t165, A80, H⟩ := H
    replace H : (twoslotref03_Cauchy.l0 kj2 a0 a1 t165 0) = some (r1, r2) := H
    have A8 := Aside0.mk A80
    clear A80
    have H' := Aside0.mk H
    clear H
    go_wp2_with (first | ((with_reducible refine gate_callee (f := 43) rfl ?_); refine goesL_ (some 25) rfl rfl Try.func43 (by kernel_rfl) rfl #[.int .i64 a1, .int .i64 a0] rfl (by (try simp only [List.map_toArray, List.map_cons, List.map_nil]); first | done | rfl | (simp only [List.length_drop, List.length_take]; rfl)) ?_; (with_reducible refine (twoslotref03_blank.calls kj2 a1 a0 t165 _ A8.out).mono ?_); rintro e w9 ⟨v166, rfl, ho0, hb⟩; refine ⟨_, rfl, ?_⟩; have n0_ := Aside0.mk (Kd.S_lower ho0 (below_size (by repeat (first | (with_reducible first | exact HB.out | apply below_alloc | apply pw_below_drewN | apply below_drew1) | exact HB.out)))); have n1_ := Aside0.mk (below_step (by repeat (first | (with_reducible first | exact HB.out | apply below_alloc | apply pw_below_drewN | apply below_drew1) | exact HB.out)) hb); clear HB; have HO167 := n0_; have HB := n1_; clear n0_ n1_; (try clear hb); (try clear hb2); (try clear hk); (try clear hi); (try clear ho0)))
    go_loopg [7] kj2 (fun kq v7 w' => ∃ (x6_2 : List (List Int)) (x7_2 : Int), v7 = .int .i64 x7_2 ∧ Aside0 (twoslotref03_Cauchy.l0 kq a0 a1 x6_2 x7_2 = some (r1, r2)) ∧ Aside0 (kq ≤ kj2) ∧ Aside0 (Kd.S (Kd.slice 5 (Kd.int .u8)) 23 w' w.heap.size (fun _ => True) v166 x6_2) ∧ Aside0 (Below w.heap.size w w'))
    case atStart => exact ⟨(t165), (0), (by first | rfl | (simp; done) | (simp [*]; done)), H', ⟨Nat.le_refl _⟩, ⟨by (with_reducible repeat (first | apply Kd.S_alloc | apply Kd.S_drewN | apply Kd.S_drew)); exact HO167.out⟩, ⟨by repeat (first | (with_reducible first | exact HB.out | apply below_alloc | apply pw_below_drewN | apply below_drew1) | exact HB.out)⟩⟩
    case round =>
     clear H'
     try clear p2
     try clear c3
     try clear c4
     try clear c4b0
     try clear c5
     try clear c5b0
     try clear c6
     try clear c6b0
     try clear c7
     try clear p2
     obtain ⟨x6_2, x7_2, rfl, HA, HK2, HO_6, HB⟩ := hrel
     cases gk with
     | zero => exact absurd HA.out (by simp [twoslotref03_Cauchy.l0])
     | succ k2 =>
      have H := HA.out
      clear HA
      simp only [twoslotref03_Cauchy.l0] at H
      by_cases c10 : x7_2 < a1
      ·rw [if_pos c10] at H
       have c10b0 : decide (x7_2 < a1) = true := decide_eq_true c10
       clear c10
       have H' := Aside0.mk H
       clear H
       go_wp2
       go_loopg [8] k2 (fun kq v8 w' => ∃ (x6_3 : List (List Int)) (x8_3 : Int), v8 = .int .i64 x8_3 ∧ Aside0 (twoslotref03_Cauchy.l1 kq a0 a1 x6_3 x7_2 x8_3 = some (r1, r2)) ∧ Aside0 (kq ≤ k2) ∧ Aside0 (Kd.S (Kd.slice 5 (Kd.int .u8)) 23 w' w.heap.size (fun _ => True) v166 x6_3) ∧ Aside0 (Below w.heap.size w w'))
       case atStart => exact ⟨(x6_2), (0), (by first | rfl | (simp; done) | (simp [*]; done)), H', ⟨Nat.le_refl _⟩, ⟨by (with_reducible repeat (first | apply Kd.S_alloc | apply Kd.S_drewN | apply Kd.S_drew)); exact HO_6.out⟩, ⟨by repeat (first | (with_reducible first | exact HB.out | apply below_alloc | apply pw_below_drewN | apply below_drew1) | exact HB.out)⟩⟩
       case round =>
        clear H'
        try clear c1
        try clear p2
        try clear c3
        try clear c4
        try clear c4b0
        try clear c5
        try clear c5b0
        try clear c6
        try clear c6b0
        try clear c7
        try clear c10
        try clear c10b0
        try clear p2
        obtain ⟨x6_3, x8_3, rfl, HA, HK3, HO_6, HB⟩ := hrel
        cases gk with
        | zero => exact absurd HA.out (by simp [twoslotref03_Cauchy.l1])
        | succ k3 =>
         have H := HA.out
         clear HA
         simp only [twoslotref03_Cauchy.l1] at H
         by_cases c11 : x8_3 < a0
         ·rw [if_pos c11] at H
          have c11b0 : decide (x8_3 < a0) = true := decide_eq_true c11
          clear c11
          by_cases c12 : 0 ≤ x7_2
          ·rw [if_pos c12] at H
           have c12b0 : decide (0 ≤ x7_2) = true := decide_eq_true c12
           clear c12
           by_cases c13 : x7_2 < (x6_3.length : Int)
           ·rw [if_pos c13] at H
            have c13b0 : decide (x7_2 < (x6_3.length : Int)) = true := decide_eq_true c13
            clear c13
            replace H := Option.bind_eq_some_iff.mp H
            obtain ⟨⟨t169, t170⟩, A140, H⟩ := H
            replace H : (if 0 ≤ x8_3 then (if x8_3 < ((rd_L1 x6_3 x7_2).length : Int) then (twoslotref03_Cauchy.l1 k3 a0 a1 (x6_3.set (x7_2 : Int).toNat ((rd_L1 x6_3 x7_2).set (x8_3 : Int).toNat t169)) x7_2 (wrap64 (x8_3 + 1))) else (none)) else (none)) = some (r1, r2) := H
            have A14 := Aside0.mk A140
            clear A140
            by_cases c15 : 0 ≤ x8_3
            ·rw [if_pos c15] at H
             have c15b0 : decide (0 ≤ x8_3) = true := decide_eq_true c15
             clear c15
             by_cases c16 : x8_3 < ((rd_L1 x6_3 x7_2).length : Int)
             ·rw [if_pos c16] at H
              have c16b0 : decide (x8_3 < ((rd_L1 x6_3 x7_2).length : Int)) = true := decide_eq_true c16
              clear c16
              obtain ⟨y171, hy171⟩ : ∃ y_ : List Int, y_ = ((rd_L1 x6_3 x7_2).set (x8_3 : Int).toNat t169) := ⟨_, rfl⟩
              replace H : (twoslotref03_Cauchy.l1 k3 a0 a1 (x6_3.set (x7_2 : Int).toNat y171) x7_2 (wrap64 (x8_3 + 1))) = some (r1, r2) := by first | (rw [hy171]; with_reducible exact H) | (have H2_ := (Option.bind_some _ _).symm.trans H; rw [hy171]; with_reducible exact H2_) | (have H2_ := (Option.bind_some _ _).symm.trans H; with_reducible exact H2_) | with_reducible exact H | (rw [hy171]; exact H) | exact H
              have Ny171 := Aside0.mk hy171
              clear hy171
              obtain ⟨y173, hy173⟩ : ∃ y_ : List (List Int), y_ = (x6_3.set (x7_2 : Int).toNat y171) := ⟨_, rfl⟩
              replace H : (twoslotref03_Cauchy.l1 k3 a0 a1 y173 x7_2 (wrap64 (x8_3 + 1))) = some (r1, r2) := by first | (rw [hy173]; with_reducible exact H) | (have H2_ := (Option.bind_some _ _).symm.trans H; rw [hy173]; with_reducible exact H2_) | (have H2_ := (Option.bind_some _ _).symm.trans H; with_reducible exact H2_) | with_reducible exact H | (rw [hy173]; exact H) | exact H
              have Ny173 := Aside0.mk hy173
              clear hy173
              have H' := Aside0.mk H
              clear H
              try go_wp2
              have n0_ := Aside0.mk (Kd.S_drew HO_6.out)
              have n1_ := Aside0.mk (below_drew1 HB.out)
              clear HO_6
              clear HB
              have HO_6 := n0_
              have HB := n1_
              clear n0_ n1_
              obtain ⟨Ao19, co19, eo19⟩ := Kd.S_slice HO_6.out
              (first | subst eo19 | (injection eo19 with f1_ f2_ f3_; have f4_ := f1_.symm; have f5_ := f3_.symm; clear f1_ f2_ f3_; subst f4_; subst f5_))
              have p168 : 0 ≤ (x7_2 : Int) := of_decide_eq_true (by first | (with_reducible assumption) | assumption)
              have q168 : x7_2 < (x6_3.length : Int) := of_decide_eq_true (by first | (with_reducible assumption) | assumption)
              obtain ⟨ad168, A168_0, c168_0, e168, hx168_0, hl168_0, hi168_0⟩ := at_L1 (Kd.S_reads' HO_6.out).2.2 x7_2 p168 q168
              cases e168
              obtain ⟨ce168, hce168, hMe168, hcc168⟩ := Kd.S_get HO_6.out [] x7_2 p168 (by first | exact q168 | exact of_decide_eq_true (by first | (with_reducible assumption) | assumption) | (have e_ := (Kd.S_reads' HO_6.out).1; omega))
              obtain ⟨ve168_0, rfl, ge168_0⟩ := hMe168
              have hv168_0 := hcc168 0 _ rfl
              rw [Nat.add_zero, show ((Kd.slice 5 (Kd.int .u8))).sz = 1 from rfl, Nat.mul_one] at hv168_0
              replace hv168_0 := Option.some.inj (hv168_0.symm.trans hx168_0)
              rw [hv168_0] at ge168_0
              have HL168_0 := Aside0.mk (show Kd.R (Kd.int .u8) 5 _ _ _ _ (rd_L1 x6_3 x7_2) from ge168_0)
              clear hv168_0 ge168_0
              have HX168_0 := Aside0.mk hx168_0
              clear hcc168 hce168
              have HR168_0 := Aside0.mk hi168_0
              have HC168_0 := Aside0.mk hl168_0
              clear hi168_0 hl168_0
              replace p168 := eq_true p168
              replace q168 := eq_true q168
              refine start_ (n := 18) (S := fun w' => w'.cell? (ad168.add (x7_2).toNat) = some (.slice A168_0 (rd_L1 x6_3 x7_2).length c168_0)) (ds := [17]) #[false, false, false, false, false, false, false, false, false, false, false, false, false, false, false, false, false, false] (by kernel_rfl) rfl rfl (hx168_0) (fun hHeld => ?_); refine with_tabW twoslotref03_Cauchy.tab10 twoslotref03_Cauchy.bits10 (fun HT_ HW_ => ?_)
              generalize wr.drew = w18 at HO_6 HB HL168_0 HR168_0 HX168_0 hx168_0 hHeld ⊢
              refine pure_ (i := 0) (N := some 37) (v := ?_) (a' := ?_) #[true, false, false, false, false, false, false, false, false, false, false, false, false, false, false, false, false, false] rfl rfl (any_of HT_.out (by kernel_rfl)) (fun _ _ _ h => h) (Or.inl ⟨by rfl, ?_⟩) ?_ ?_
              rotate_left
              ·intro w'
               go_simp
               with_reducible rfl
              rotate_left
              ·simp only [Act.put, List.setIfInBounds_toArray, List.set_cons_zero, List.set_cons_succ, i64_w, i32_w]
               rfl
              refine pure_ (i := 1) (N := some 38) (v := ?_) (a' := ?_) #[true, true, false, false, false, false, false, false, false, false, false, false, false, false, false, false, false, false] rfl rfl (any_of HT_.out (by kernel_rfl)) (fun _ _ _ h => h) (Or.inl ⟨by rfl, ?_⟩) ?_ ?_
              rotate_left
              ·intro w'
               go_simp
               with_reducible rfl
              rotate_left
              ·simp only [Act.put, List.setIfInBounds_toArray, List.set_cons_zero, List.set_cons_succ, i64_w, i32_w]
               rfl
              refine pure_ (i := 2) (N := some 39) (v := ?_) (a' := ?_) #[true, true, true, false, false, false, false, false, false, false, false, false, false, false, false, false, false, false] rfl rfl (any_of HT_.out (by kernel_rfl)) (fun _ _ _ h => h) (Or.inl ⟨by rfl, ?_⟩) ?_ ?_
              rotate_left
              ·intro w'
               go_simp
               with_reducible rfl
              rotate_left
              ·simp only [Act.put, List.setIfInBounds_toArray, List.set_cons_zero, List.set_cons_succ, i64_w, i32_w]
               rfl
              refine pure_ (i := 4) (N := some 41) (v := ?_) (a' := ?_) #[true, true, true, false, true, false, false, false, false, false, false, false, false, false, false, false, false, false] rfl rfl (any_of HT_.out (by kernel_rfl)) (fun _ _ _ h => h) (Or.inl ⟨by rfl, ?_⟩) ?_ ?_
              rotate_left
              ·intro w'
               go_simp
               with_reducible rfl
              rotate_left
              ·simp only [Act.put, List.setIfInBounds_toArray, List.set_cons_zero, List.set_cons_succ, i64_w, i32_w]
               rfl
              refine pure_ (i := 5) (N := some 42) (v := ?_) (a' := ?_) #[true, true, true, false, true, true, false, false, false, false, false, false, false, false, false, false, false, false] rfl rfl (any_of HT_.out (by kernel_rfl)) (fun _ _ _ h => h) (Or.inl ⟨by rfl, ?_⟩) ?_ ?_
              rotate_left
              ·intro w'
               go_simp
               with_reducible rfl
              rotate_left
              ·simp only [Act.put, List.setIfInBounds_toArray, List.set_cons_zero, List.set_cons_succ, i64_w, i32_w]
               rfl
              refine pure_ (i := 6) (N := some 43) (v := ?_) (a' := ?_) #[true, true, true, false, true, true, true, false, false, false, false, false, false, false, false, false, false, false] rfl rfl (any_of HT_.out (by kernel_rfl)) (fun _ _ _ h => h) (Or.inl ⟨by rfl, ?_⟩) ?_ ?_
              rotate_left
              ·intro w'
               go_simp
               with_reducible rfl
              rotate_left
              ·simp only [Act.put, List.setIfInBounds_toArray, List.set_cons_zero, List.set_cons_succ, i64_w, i32_w]
               rfl
              refine pure_ (i := 7) (N := some 44) (v := ?_) (a' := ?_) #[true, true, true, false, true, true, true, true, false, false, false, false, false, false, false, false, false, false] rfl rfl (any_of HT_.out (by kernel_rfl)) (fun _ _ _ h => h) (Or.inl ⟨by rfl, ?_⟩) ?_ ?_
              rotate_left
              ·intro w'
               go_simp
               with_reducible rfl
              rotate_left
              ·simp only [Act.put, List.setIfInBounds_toArray, List.set_cons_zero, List.set_cons_succ, i64_w, i32_w]
               rfl
              refine pure_ (i := 8) (N := some 45) (v := ?_) (a' := ?_) #[true, true, true, false, true, true, true, true, true, false, false, false, false, false, false, false, false, false] rfl rfl (any_of HT_.out (by kernel_rfl)) (fun _ _ _ h => h) (Or.inl ⟨by rfl, ?_⟩) ?_ ?_
              rotate_left
              ·intro w'
               go_simp
               with_reducible rfl
              rotate_left
              ·simp only [Act.put, List.setIfInBounds_toArray, List.set_cons_zero, List.set_cons_succ, i64_w, i32_w]
               rfl
              refine pure_ (i := 9) (N := some 46) (v := ?_) (a' := ?_) #[true, true, true, false, true, true, true, true, true, true, false, false, false, false, false, false, false, false] rfl rfl (any_of HT_.out (by kernel_rfl)) (fun _ _ _ h => h) (Or.inl ⟨by rfl, ?_⟩) ?_ ?_
              rotate_left
              ·intro w'
               go_simp
               with_reducible rfl
              rotate_left
              ·simp only [Act.put, List.setIfInBounds_toArray, List.set_cons_zero, List.set_cons_succ, i64_w, i32_w]
               rfl
              refine pure_ (i := 10) (N := some 47) (v := ?_) (a' := ?_) #[true, true, true, false, true, true, true, true, true, true, true, false, false, false, false, false, false, false] rfl rfl (any_of HT_.out (by kernel_rfl)) (fun _ _ _ h => h) (Or.inl ⟨by rfl, ?_⟩) ?_ ?_
              rotate_left
              ·intro w'
               go_simp
               with_reducible rfl
              rotate_left
              ·simp only [Act.put, List.setIfInBounds_toArray, List.set_cons_zero, List.set_cons_succ, i64_w, i32_w]
               rfl
              refine pure_ (i := 11) (N := some 48) (v := ?_) (a' := ?_) #[true, true, true, false, true, true, true, true, true, true, true, true, false, false, false, false, false, false] rfl rfl (any_of HT_.out (by kernel_rfl)) (fun _ _ _ h => h) (Or.inl ⟨by rfl, ?_⟩) ?_ ?_
              rotate_left
              ·intro w'
               go_simp
               with_reducible rfl
              rotate_left
              ·simp only [Act.put, List.setIfInBounds_toArray, List.set_cons_zero, List.set_cons_succ, i64_w, i32_w]
               rfl
              refine take_ (i := 3) (N := some 40) (v := ?_) (a' := ?_) #[true, true, true, true, true, true, true, true, true, true, true, true, false, false, false, false, false, false] rfl rfl (take_ofW HT_.out HW_.out (by kernel_rfl)) (fun _ _ _ h => h) (Or.inl ⟨by rfl, ?_⟩) hHeld ?_ ?_
              rotate_left
              ·intro w' s0
               go_simp
               with_reducible rfl
              rotate_left
              ·simp only [Act.put, List.setIfInBounds_toArray, List.set_cons_zero, List.set_cons_succ, i64_w, i32_w]
               rfl
              refine one_ (i := 12) (N := some 49) #[true, true, true, true, true, true, true, true, true, true, true, true, true, false, false, false, false, false] rfl rfl (one_of HT_.out (by kernel_rfl)) (by decide) (fun K hK => ?_)
              refine goes_ Try.func44 (by kernel_rfl) rfl #[.int .u8 (Go.bits .xor .u8 ((wrap64 (a0 + x7_2)) % 256) ((x8_3) % 256))] (by rfl) rfl rfl (by (try simp only [List.map_toArray, List.map_cons, List.map_nil]); first | done | rfl | (simp only [List.length_drop, List.length_take]; rfl)) ?_
              with_reducible refine (twoslotref01_Inv.calls k3 (Go.bits .xor .u8 ((wrap64 (a0 + x7_2)) % 256) ((x8_3) % 256)) t169 t170 _ A14.out).mono ?_
              rintro e w' ⟨rfl, ⟨nd, rfl⟩⟩
              refine ⟨_, rfl, ?_⟩
              have p17 : 0 ≤ (x8_3 : Int) := of_decide_eq_true (by first | (with_reducible assumption) | assumption)
              have q17 : (x8_3 : Int) < (((rd_L1 x6_3 x7_2).length : Int) : Int) := of_decide_eq_true (by first | (with_reducible assumption) | assumption)
              obtain ⟨go17, co17, eo17, gb17, gl17, cl17, HG17⟩ := Kd.R_form HL168_0.out (by omega)
              (first | cases eo17 | (injection eo17 with ea_ en_ ec_; (first | subst ea_ | (injection ea_ with ea_; subst ea_)); subst ec_; clear en_))
              have GB17 := Aside0.mk gb17
              have GG17 := Aside0.mk HG17
              clear gb17 gl17 HG17
              obtain ⟨hx17_0, hf17_0⟩ := Kd.R_celln 0 HL168_0.out (x8_3 : Int) p17 q17
              replace p17 := eq_true p17
              replace q17 := eq_true q17
              have hq20 : (x7_2 : Int) < (x6_3.length : Int) := (by have h_ : (x7_2 : Int) < ((x6_3.length : Int) : Int) := of_decide_eq_true (by first | (with_reducible assumption) | assumption); first | exact h_ | (have e_ := (Kd.S_reads' HO_6.out).1; omega) | simpa only [List.length_set, List.length_set] using h_)
              obtain ⟨oki20, ce20, hcl20, hM20, hcc20, hok20, hbk20⟩ := Kd.S_borrow HO_6.out [] (x7_2 : Int) (of_decide_eq_true (by first | (with_reducible assumption) | assumption)) hq20
              obtain ⟨ve20_0, rfl, ge20_0⟩ := hM20
              have hv20 := hcc20 0 _ rfl
              rw [Nat.add_zero, show ((Kd.slice 5 (Kd.int .u8))).sz = 1 from rfl, Nat.mul_one] at hv20
              replace hv20 := Option.some.inj (hv20.symm.trans HX168_0.out)
              subst hv20
              clear hcc20 hcl20
              replace ge20_0 := (show Kd.R (Kd.int .u8) 5 _ _ _ _ (rd_L1 x6_3 x7_2) from ge20_0)
              have HP20 := Kd.R_putg ge20_0 (x8_3 : Int) t169
              rw [← Ny171.out] at HP20
              have HS20 := hbk20 HP20.2 (fun k_ e_ => by injection e_ with e_; subst e_; exact ge20_0.1 _ rfl) (x' := y171) (Kd.M_row HP20.1)
              rw [← Ny173.out] at HS20
              have HQ20 := Aside0.mk HS20
              clear HP20 HS20 hbk20 hok20
              refine hK.out _ _ (hHeld) (fun hHeld => ?_)
              clear hK K
              refine norm_ (a' := ?_) ?_ ?_
              rotate_left
              ·show Act.put _ (some 49) _ = _
               simp only [Act.put, List.setIfInBounds_toArray, List.set_cons_zero, List.set_cons_succ, i64_w, i32_w]
               rfl
              refine pure_ (i := 13) (N := some 36) (v := ?_) (a' := ?_) #[true, true, true, true, true, true, true, true, true, true, true, true, true, true, false, false, false, false] rfl rfl (any_of HT_.out (by kernel_rfl)) (fun _ _ _ h => h) (Or.inl ⟨by rfl, ?_⟩) ?_ ?_
              rotate_left
              ·intro w'
               go_simp
               with_reducible rfl
              rotate_left
              ·simp only [Act.put, List.setIfInBounds_toArray, List.set_cons_zero, List.set_cons_succ, i64_w, i32_w]
               rfl
              refine pure_ (i := 14) (N := some 50) (v := ?_) (a' := ?_) #[true, true, true, true, true, true, true, true, true, true, true, true, true, true, true, false, false, false] rfl rfl (any_of HT_.out (by kernel_rfl)) (fun _ _ _ h => h) (Or.inl ⟨by rfl, ?_⟩) ?_ ?_
              rotate_left
              ·intro w'
               go_simp
               with_reducible rfl
              rotate_left
              ·simp only [Act.put, List.setIfInBounds_toArray, List.set_cons_zero, List.set_cons_succ, i64_w, i32_w]
               rfl
              refine pure_ (i := 15) (N := some 51) (v := ?_) (a' := ?_) #[true, true, true, true, true, true, true, true, true, true, true, true, true, true, true, true, false, false] rfl rfl (any_of HT_.out (by kernel_rfl)) (fun _ _ _ h => h) (Or.inl ⟨by rfl, ?_⟩) ?_ ?_
              rotate_left
              ·intro w'
               go_simp
               with_reducible rfl
              rotate_left
              ·simp only [Act.put, List.setIfInBounds_toArray, List.set_cons_zero, List.set_cons_succ, i64_w, i32_w]
               rfl
              refine pure_ (i := 16) (N := some 52) (v := ?_) (a' := ?_) #[true, true, true, true, true, true, true, true, true, true, true, true, true, true, true, true, true, false] rfl rfl (any_of HT_.out (by kernel_rfl)) (fun _ _ _ h => h) (Or.inl ⟨by rfl, ?_⟩) ?_ ?_
              rotate_left
              ·intro w'
               go_simp
               with_reducible rfl
              rotate_left
              ·simp only [Act.put, List.setIfInBounds_toArray, List.set_cons_zero, List.set_cons_succ, i64_w, i32_w]
               rfl
              refine last_ (i := 17) (N := none) #[true, true, true, true, true, true, true, true, true, true, true, true, true, true, true, true, true, true] rfl rfl (one_of HT_.out (by kernel_rfl)) (by decide) (fun K hK => ?_)
              refine skip_ (w1 := ?_) (by rfl) rfl ?_ ?_
              rotate_left
              ·go_simp
               rfl
              refine hK.out _ _ ?_
              clear hK K
              refine done_ (done_of HT_.out (by kernel_rfl)) ?_
              try go_wp2
              go_roundg k3
              case measure => have := HJ2.out; have := HK2.out; have := HK3.out; omega
              case rel => exact ⟨(y173), (wrap64 (x8_3 + 1)), (by first | rfl | (simp; done) | (simp [*]; done)), H', ⟨by have := HJ2.out; have := HK2.out; have := HK3.out; omega⟩, ⟨by (with_reducible repeat (first | apply Kd.S_alloc | apply Kd.S_drewN | apply Kd.S_drew)); exact HQ20.out⟩, ⟨by repeat (first | (with_reducible first | exact HB.out | apply below_alloc | apply pw_below_drewN | apply below_drew1 | refine below_set ?_ GB17.out) | exact HB.out)⟩⟩
             ·rw [if_neg c16] at H
              exact absurd H (by simp)
            ·rw [if_neg c15] at H
             exact absurd H (by simp)
           ·rw [if_neg c13] at H
            exact absurd H (by simp)
          ·rw [if_neg c12] at H
           exact absurd H (by simp)
         ·rw [if_neg c11] at H
          have c11b0 : decide (x8_3 < a0) = false := decide_eq_false c11
          clear c11
          have H' := Aside0.mk H
          clear H
          go_wp2
          go_roundg k3
          case measure => have := HJ2.out; have := HK2.out; have := HK3.out; omega
          case rel => exact ⟨(x6_3), (wrap64 (x7_2 + 1)), (by first | rfl | (simp; done) | (simp [*]; done)), H', ⟨by have := HJ2.out; have := HK2.out; have := HK3.out; omega⟩, ⟨by (with_reducible repeat (first | apply Kd.S_alloc | apply Kd.S_drewN | apply Kd.S_drew)); exact HO_6.out⟩, ⟨by repeat (first | (with_reducible first | exact HB.out | apply below_alloc | apply pw_below_drewN | apply below_drew1) | exact HB.out)⟩⟩
      ·rw [if_neg c10] at H
       have c10b0 : decide (x7_2 < a1) = false := decide_eq_false c10
       clear c10
       simp only [Option.some.injEq, Prod.mk.injEq] at H
       obtain ⟨rfl, rfl⟩ := H
       go_wp2
       go_ret2
       exact ⟨_, by first | rfl | (simp [errW_none, errW_some] <;> rfl) | (simp [*, errW_none, errW_some] <;> rfl), by (with_reducible repeat (first | apply Kd.S_alloc | apply Kd.S_drewN | apply Kd.S_drew)); exact HO_6.out, by repeat (first | (with_reducible first | exact HB.out | apply below_alloc | apply pw_below_drewN | apply below_drew1) | exact HB.out)⟩

end Go.Proofs.Ythhncoogmncdkaa.PC
