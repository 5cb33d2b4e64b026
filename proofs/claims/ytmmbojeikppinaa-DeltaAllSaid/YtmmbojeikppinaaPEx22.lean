-- written by the session's own program (wip/prt.py) over the kit's print: not print.sh's own text
import Derived.Test.YtmmbojeikppinaaPEx0
import Derived.Test.YtmmbojeikppinaaMxSpo
import Derived.Test.YtmmbojeikppinaaCdLit
import Derived.Test.YtmmbojeikppinaaPEx8
import Derived.Test.YtmmbojeikppinaaPEx9
import Derived.Test.YtmmbojeikppinaaDAlive
import Derived.Test.YtmmbojeikppinaaPEx15
import Derived.Test.YtmmbojeikppinaaPEx18
import Derived.Test.YtmmbojeikppinaaDSame
import Derived.Test.YtmmbojeikppinaaPEx21
namespace Go.Proofs.Ytmmbojeikppinaa.PE
open Go.RowKit Go.Proofs.YtmmbojeikppinaaW.PrintWords Go.Proofs.YtmmbojeikppinaaW.PrintLast Go.Proofs.YtmmbojeikppinaaW.PrintMore
attribute [local go_sem] max2_int min2_int max_two min_two max_three min_three max_four min_four   -- for this text's walks alone
set_option linter.unusedVariables false
set_option linter.unusedSimpArgs false

/-! ### twoslotlaw05_DeltaAll: function 5 -/
def twoslotlaw05_DeltaAll.ok (k : Nat) (a0 a1 : Int) (l2 : List (List Int)) (l3 : List Int) (l4 : List (List Int)) : Prop :=
  twoslotlaw05_alive.f k = some true ∧ ∃ b0, twoslotlaw05_much.f k l2 = some b0 ∧ (b0 = false → ∃ b1, twoslotlaw05_much.f k l4 = some b1 ∧ (b1 = false → l3.length ≤ 60 → ∃ (p : List (List Int)) (e2 : Int),
    twoslotref02_Twin.f k l2 = some l2 ∧ twoslotref02_Twin.f k l4 = some l4 ∧ delta_All.f k a0 a1 l2 l3 l4 = some (p, e2) ∧ twoslotref05_All.f k a0 a1 l2 l3 l4 = some (p, e2) ∧
    twoslotref02_SameAll.f k p p = some true ∧ twoslotlaw05_spoil.f p = some () ∧ twoslotref02_SameAll.f k l2 l2 = some true ∧ twoslotref02_SameAll.f k l4 l4 = some true))
set_option maxHeartbeats 16000000 in
set_option maxRecDepth 100000 in
theorem twoslotlaw05_DeltaAll.calls (k : Nat) (a0 : Int) (a1 : Int) (A2 : Option Addr) (c2 : Nat) (l2 : List (List Int)) (A3 : Option Addr) (c3 : Nat) (l3 : List Int) (A4 : Option Addr) (c4 : Nat) (l4 : List (List Int)) (w : World) (hr2 : Kd.C (Kd.slice 5 (Kd.int .u8)) w A2 l2.length l2) (hc2 : l2.length ≤ c2) (hr3 : Kd.C (Kd.int .i64) w A3 l3.length l3) (hc3 : l3.length ≤ c3) (hr4 : Kd.C (Kd.slice 5 (Kd.int .u8)) w A4 l4.length l4) (hc4 : l4.length ≤ c4) (h : twoslotlaw05_DeltaAll.ok k a0 a1 l2 l3 l4) :
    Calls Try.prog 5 #[.int .i64 a0, .int .i64 a1, .slice A2 l2.length c2, .slice A3 l3.length c3, .slice A4 l4.length c4] w fun e w' => e = .returned (.bool true) ∧ Below w.heap.size w w' := by
  obtain ⟨hal, b0, hm0, h⟩ := h
  have F2 := Lib.hid hr2
  have G2 := Lib.hid hc2
  have F3 := Lib.hid hr3
  have G3 := Lib.hid hc3
  have F4 := Lib.hid hr4
  have G4 := Lib.hid hc4
  have HAL := Lib.hid hal
  have HM0 := Lib.hid hm0
  have H := Lib.hid h
  have HB := Lib.hid (Below.refl w.heap.size w)
  clear hr2 hc2 hr3 hc3 hr4 hc4 hal hm0 h
  go_enter Try.func5, Try.ntmps5
  go_wp2_with fail
  refine (twoslotlaw05_alive.calls k true _ HAL.out).mono ?_
  rintro en w1 ⟨rfl, hb⟩
  have hbn := hb
  replace F2 := Lib.hid (Kd.C_below F2.out hbn)
  replace F3 := Lib.hid (Kd.C_below F3.out hbn)
  replace F4 := Lib.hid (Kd.C_below F4.out hbn)
  replace HB := Lib.hid (below_step HB.out hbn)
  clear hb hbn
  go_wp2_with fail
  refine (twoslotlaw05_much.calls k A2 c2 l2 b0 _ F2.out G2.out HM0.out).mono ?_
  rintro en w2 ⟨rfl, n_, hw_⟩
  have hb : Below (World.heap w1).size w1 w2 := by rw [hw_]; exact pw_below_drewN (Below.refl _ _) n_
  clear hw_
  have hbn := hb
  replace F2 := Lib.hid (Kd.C_below F2.out hbn)
  replace F3 := Lib.hid (Kd.C_below F3.out hbn)
  replace F4 := Lib.hid (Kd.C_below F4.out hbn)
  replace HB := Lib.hid (below_step HB.out hbn)
  clear hb hbn
  cases b0 with
  | true =>
    go_wp2_with fail
    go_ret
    exact ⟨rfl, HB.out⟩
  | false =>
    obtain ⟨b1, hm1, h⟩ := H.out rfl
    have HM1 := Lib.hid hm1
    replace H := Lib.hid h
    clear hm1 h
    go_wp2_with fail
    refine (twoslotlaw05_much.calls k A4 c4 l4 b1 _ F4.out G4.out HM1.out).mono ?_
    rintro en w3 ⟨rfl, n_, hw_⟩
    have hb : Below (World.heap w2).size w2 w3 := by rw [hw_]; exact pw_below_drewN (Below.refl _ _) n_
    clear hw_
    have hbn := hb
    replace F2 := Lib.hid (Kd.C_below F2.out hbn)
    replace F3 := Lib.hid (Kd.C_below F3.out hbn)
    replace F4 := Lib.hid (Kd.C_below F4.out hbn)
    replace HB := Lib.hid (below_step HB.out hbn)
    clear hb hbn
    cases b1 with
    | true =>
      go_wp2_with fail
      go_ret
      exact ⟨rfl, HB.out⟩
    | false =>
      by_cases hl1 : (l3.length : Int) > 60
      case pos =>
        have hl2 : decide ((l3.length : Int) > 60) = true := decide_eq_true hl1
        have hl3 : (60 : Int) < (l3.length : Int) := hl1
        go_wp2_with fail
        go_ret
        exact ⟨rfl, HB.out⟩
      have hl2 : decide ((l3.length : Int) > 60) = false := decide_eq_false hl1
      have hl3 : ¬ (60 : Int) < (l3.length : Int) := hl1
      obtain ⟨p, e2, t0, t1, t2, t3, t7, t8, s0, s1⟩ := H.out rfl (by omega)
      have Ht0 := Lib.hid t0
      have Ht1 := Lib.hid t1
      have Ht2 := Lib.hid t2
      have Ht3 := Lib.hid t3
      have Ht7 := Lib.hid t7
      have Ht8 := Lib.hid t8
      have Hs0 := Lib.hid s0
      have Hs1 := Lib.hid s1
      clear t0 t1 t2 t3 t7 t8 s0 s1 H
      have HLL := Lib.hid (show l3.length ≤ 60 by omega)
      go_wp2_with fail
      refine (twoslotref02_Twin.calls k A2 c2 l2 l2 _ F2.out G2.out Ht0.out).mono ?_
      rintro en w4 ⟨v1, rfl, ho, hb⟩
      have hbn := hb
      replace F2 := Lib.hid (Kd.C_below F2.out hbn)
      replace F3 := Lib.hid (Kd.C_below F3.out hbn)
      replace F4 := Lib.hid (Kd.C_below F4.out hbn)
      replace HB := Lib.hid (below_step HB.out hbn)
      obtain ⟨Ax, cx, rfl⟩ := Kd.S_slice ho
      have Fx := Lib.hid (Kd.S_reads' ho).2.2
      have Gx := Lib.hid (Kd.S_reads' ho).2.1
      have Ox := Lib.hid ho
      clear ho
      clear hb hbn
      clear hl1 hl2 hl3
      go_wp2_with fail
      refine (twoslotref02_Twin.calls k A4 c4 l4 l4 _ F4.out G4.out Ht1.out).mono ?_
      rintro en w5 ⟨v1, rfl, ho, hb⟩
      have hbn := hb
      replace F2 := Lib.hid (Kd.C_below F2.out hbn)
      replace F3 := Lib.hid (Kd.C_below F3.out hbn)
      replace F4 := Lib.hid (Kd.C_below F4.out hbn)
      replace Fx := Lib.hid (Kd.C_below Fx.out hbn)
      replace HB := Lib.hid (below_step HB.out hbn)
      obtain ⟨Ay, cy, rfl⟩ := Kd.S_slice ho
      have Fy := Lib.hid (Kd.S_reads' ho).2.2
      have Gy := Lib.hid (Kd.S_reads' ho).2.1
      have Oy := Lib.hid ho
      clear ho
      clear hb hbn
      clear Ox Oy
      go_wp2_with ((with_reducible refine gate_builtin (b := .append) (xs := #[.tmp 38, .tmp 39]) rfl ?_); (try (refine gate_guard (by rfl) ?_; dsimp only)); at_builtin; refine Kd.R_append_rows (Kd.int .i64) (w0 := w5) w5.heap.size rfl (.tmp 38) (.tmp 39) 31 3 (.int .i64 0) 8 rfl Try.underlying31 info3 rfl (by decide) (by omega) (.slice none 0 0) ([] : List Int) l3 _ _ _ (fun _ => True) (fun _ => False) rfl rfl ?aO ?aR (fun _ _ h => h) (fun _ h => h.elim) (fun _ _ => trivial) (Below.refl _ _) (Nat.le_refl _) ?aL ?_; (case aR => exact F3.out); (case aO => exact Kd.R_nil _ _ _ _ _); (case aL => have := HLL.out; simp; omega); intro v1 wz ho hb hg_ hat_; have HO := Lib.hid ho; have HBz := Lib.hid hb; clear ho hb hg_ hat_)
      have e0 : ([] : List Int) ++ l3 = l3 := List.nil_append l3
      rw [e0] at HO
      clear e0
      obtain ⟨Az, cz, rfl⟩ := Kd.R_slice HO.out
      have Fz := Lib.hid (Kd.R_reads' HO.out).2.2
      have Gz := Lib.hid (Kd.R_reads' HO.out).2.1
      replace F2 := Lib.hid (Kd.C_below F2.out HBz.out)
      replace F3 := Lib.hid (Kd.C_below F3.out HBz.out)
      replace F4 := Lib.hid (Kd.C_below F4.out HBz.out)
      replace Fx := Lib.hid (Kd.C_below Fx.out HBz.out)
      replace Fy := Lib.hid (Kd.C_below Fy.out HBz.out)
      replace HB := Lib.hid (below_step HB.out HBz.out)
      clear HO HBz
      have HBW := HB
      have HN := Lib.hid (Below.refl wz.heap.size wz)
      have Z_F2 := F2
      clear F2
      have Z_F3 := F3
      clear F3
      have Z_F4 := F4
      clear F4
      have Z_Fx := Fx
      clear Fx
      have Z_Fy := Fy
      clear Fy
      have Z_Fz := Fz
      clear Fz
      go_wp2_with fail
      refine (delta_All.calls k a0 a1 Ax cx l2 Az cz l3 Ay cy l4 p e2 _ (Kd.C_below Z_Fx.out HN.out) Gx.out (Kd.C_below Z_Fz.out HN.out) Gz.out (Kd.C_below Z_Fy.out HN.out) Gy.out Ht2.out).mono ?_
      rintro en w6 ⟨v1, rfl, ho, hb⟩
      have hbn := hb
      replace HN := Lib.hid (below_step HN.out hbn)
      obtain ⟨Ap, cp, rfl⟩ := Kd.S_slice ho
      have Fp := Lib.hid (Kd.S_reads' ho).2.2
      have Gp := Lib.hid (Kd.S_reads' ho).2.1
      have Op := Lib.hid ho
      clear ho
      clear hb hbn
      go_wp2_with fail
      refine (twoslotref05_All.calls k a0 a1 A2 c2 l2 A3 c3 l3 A4 c4 l4 p e2 _ (Kd.C_below Z_F2.out HN.out) G2.out (Kd.C_below Z_F3.out HN.out) G3.out (Kd.C_below Z_F4.out HN.out) G4.out Ht3.out).mono ?_
      rintro en w7 ⟨v1, rfl, ho, hb⟩
      have hbn := hb
      replace Fp := Lib.hid (Kd.C_below Fp.out hbn)
      replace Op := Lib.hid (Kd.S_below Op.out hbn)
      replace HN := Lib.hid (below_step HN.out hbn)
      obtain ⟨Ap2, cp2, rfl⟩ := Kd.N_slice ho
      have Fp2 := Lib.hid (Kd.N_reads' ho).2.2
      have Gp2 := Lib.hid (Kd.N_reads' ho).2.1
      clear ho
      clear hb hbn
      go_wp2_with fail
      refine (twoslotref02_SameAll.calls k Ap cp p Ap2 cp2 p true _ Fp.out Gp.out Fp2.out Gp2.out Ht7.out).mono ?_
      rintro en w8 ⟨rfl, n_, hw_⟩
      have hb : Below (World.heap w7).size w7 w8 := by rw [hw_]; exact pw_below_drewN (Below.refl _ _) n_
      clear hw_
      have hbn := hb
      replace Fp := Lib.hid (Kd.C_below Fp.out hbn)
      replace Fp2 := Lib.hid (Kd.C_below Fp2.out hbn)
      replace Op := Lib.hid (Kd.S_below Op.out hbn)
      replace HN := Lib.hid (below_step HN.out hbn)
      clear hb hbn
      go_wp2_with fail
      refine (twoslotlaw05_spoil.real (fun _ => True) wz.heap.size _ p wz _ HN.out (Nat.le_refl _) Op.out Ht8.out).mono ?_
      rintro en w9 ⟨rfl, hk_, hb⟩
      replace HN := Lib.hid hb
      clear hb hk_ Op
      clear Fp Fp2
      go_wp2_with fail
      go_loopg [19] l3.length (fun gk s19 wx => ∃ i : Nat, i + gk = l3.length ∧ s19 = .int .i64 i ∧ Aside0 (Below wz.heap.size wz wx))
      case atStart => exact ⟨0, by omega, rfl, ⟨HN.out⟩⟩
      case round =>
        clear HN
        obtain ⟨i, hig, rfl, HN⟩ := hrel
        have hle : (i : Int) ≤ (l3.length : Int) := by omega
        cases gk with
        | zero =>
          obtain rfl : i = l3.length := by omega
          have hll : ((l3.length : Int) == (l3.length : Int)) = true := beq_self_eq_true _
          go_wp2_with fail
          refine (twoslotref02_SameAll.calls k Ax cx l2 A2 c2 l2 true _ (Kd.C_below Z_Fx.out HN.out) Gx.out (Kd.C_below Z_F2.out HN.out) G2.out Hs0.out).mono ?_
          rintro en w41 ⟨rfl, n_, hw_⟩
          have hb : Below (World.heap wr).size wr w41 := by rw [hw_]; exact pw_below_drewN (Below.refl _ _) n_
          clear hw_
          have hbn := hb
          replace HN := Lib.hid (below_step HN.out hbn)
          clear hb hbn
          go_wp2_with fail
          refine (twoslotref02_SameAll.calls k Ay cy l4 A4 c4 l4 true _ (Kd.C_below Z_Fy.out HN.out) Gy.out (Kd.C_below Z_F4.out HN.out) G4.out Hs1.out).mono ?_
          rintro en w42 ⟨rfl, n_, hw_⟩
          have hb : Below (World.heap w41).size w41 w42 := by rw [hw_]; exact pw_below_drewN (Below.refl _ _) n_
          clear hw_
          have hbn := hb
          replace HN := Lib.hid (below_step HN.out hbn)
          clear hb hbn
          have q2 : (e2 == e2) = true := beq_self_eq_true e2
          go_wp2_with fail
          go_ret
          exact ⟨rfl, below_step HBW.out HN.out⟩
        | succ d =>
          have hi1 : (i : Int) < (l3.length : Int) := by omega
          have hi0 : (0 : Int) ≤ (i : Int) := by omega
          obtain ⟨adz, rz, hz⟩ := Kd.at_int (Kd.C_below Z_Fz.out HN.out) (i : Int) hi0 hi1
          subst rz
          obtain ⟨ad3, r3, h3⟩ := Kd.at_int (Kd.C_below Z_F3.out HN.out) (i : Int) hi0 hi1
          subst r3
          have hne : (rd l3 (i : Int) != rd l3 (i : Int)) = false := by simp
          have HI := Lib.hid (show i + 1 ≤ 60 by have := HLL.out; omega)
          have hz2 : wr.drew.cell? (adz.add i) = some (.int .i64 (rd l3 (i : Int))) := hz
          have h32 : wr.drew.cell? (ad3.add i) = some (.int .i64 (rd l3 (i : Int))) := h3
          clear hz h3
          go_wp2_with fail
          go_region
          go_wp2_with fail
          go_roundg d
          case measure => omega
          case rel => exact ⟨i + 1, by omega, by have := HI.out; rw [show wrap64 ((i : Int) + 1) = ((i + 1 : Nat) : Int) by unfold wrap64; omega], ⟨below_drew HN.out⟩⟩
/-- THE ONE PURE STATEMENT of twoslotlaw05_DeltaAll: yours. -/
def twoslotlaw05_DeltaAll.Pure : Prop := ∀ (a0 : Int) (a1 : Int) (l2 : List (List Int)) (l3 : List Int) (l4 : List (List Int)), (Lit.int .i64 a0).wf = true → (Lit.int .i64 a1).wf = true → (l2.length ≤ maxLen ∧ l2.length * 24 ≤ 140737488351232 ∧ ∀ y0 ∈ l2, (y0.length ≤ maxLen ∧ y0.length * 1 ≤ 140737488351232 ∧ ∀ y1 ∈ y0, (Lit.int .u8 y1).wf = true)) → (l3.length ≤ maxLen ∧ l3.length * 8 ≤ 140737488351232 ∧ ∀ y0 ∈ l3, (Lit.int .i64 y0).wf = true) → (l4.length ≤ maxLen ∧ l4.length * 24 ≤ 140737488351232 ∧ ∀ y0 ∈ l4, (y0.length ≤ maxLen ∧ y0.length * 1 ≤ 140737488351232 ∧ ∀ y1 ∈ y0, (Lit.int .u8 y1).wf = true)) → ∃ k, twoslotlaw05_DeltaAll.ok k a0 a1 l2 l3 l4

end Go.Proofs.Ytmmbojeikppinaa.PE
