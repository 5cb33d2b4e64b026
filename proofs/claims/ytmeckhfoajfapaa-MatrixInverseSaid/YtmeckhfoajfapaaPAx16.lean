-- written by the session's own program (wip/prt.py) over the kit's print: not print.sh's own text
import Derived.Test.YtmeckhfoajfapaaPAx0
import Derived.Test.YtmeckhfoajfapaaPAx3
import Derived.Test.YtmeckhfoajfapaaPAx6
import Derived.Test.YtmeckhfoajfapaaPAx7
import Derived.Test.YtmeckhfoajfapaaPAx13
import Derived.Test.YtmeckhfoajfapaaPAx14
namespace Go.Proofs.Ytmeckhfoajfapaa.PA
open Go.RowKit Go.Proofs.YtmeckhfoajfapaaW.PrintWords Go.Proofs.YtmeckhfoajfapaaW.PrintLast Go.Proofs.YtmeckhfoajfapaaW.PrintMore
attribute [local go_sem] max2_int min2_int max_two min_two max_three min_three max_four min_four   -- for this text's walks alone
set_option linter.unusedVariables false
set_option linter.unusedSimpArgs false

/-! ### twoslotlaw03_MatrixInverse: function 5 -/
def twoslotlaw03_MatrixInverse.f (k : Nat) (l0 : List (List Int)) : Option (Bool) := (twoslotlaw03_alive.f k).bind fun t203 => (if t203 = true then ((twoslotlaw03_much.f k l0).bind fun t204 => (if t204 = true then (some true) else ((matrix_Inverse.f k l0).bind fun bt205 => ((matrix_Rank.f k l0).bind fun bt209 => (if bt209.2 = 0 then (if 0 < (l0.length : Int) then (if (l0.length : Int) = ((rd_L1 l0 0).length : Int) then (if bt205.2 = 0 then ((matrix_Mul.f k l0 bt205.1).bind fun bt212 => ((matrix_Mul.f k bt205.1 l0).bind fun bt216 => ((matrix_One.f (l0.length : Int)).bind fun bt220 => ((matrix_Inverse.f k bt205.1).bind fun bt224 => (if bt212.2 = 0 then (if bt216.2 = 0 then (if bt220.2 = 0 then (if bt224.2 = 0 then (if bt209.1 = (l0.length : Int) then ((twoslotref03_Same.f k bt212.1 bt220.1).bind fun t228 => (if t228 = true then ((twoslotref03_Same.f k bt216.1 bt220.1).bind fun t229 => (if t229 = true then ((twoslotref03_Same.f k bt224.1 l0).bind fun t230 => (some t230)) else (none))) else (none))) else (none)) else (none)) else (none)) else (none)) else (none)))))) else (if bt205.2 = 5 then (if bt209.1 < (l0.length : Int) then (some ((bt205.1.length : Int) == 0)) else (none)) else (none))) else (if bt205.2 = 30 then (some ((bt205.1.length : Int) == 0)) else (none))) else (none)) else (if bt209.1 = 0 then (if bt205.2 = 30 then (some ((bt205.1.length : Int) == 0)) else (none)) else (none))))))) else (none))
theorem twoslotlaw03_MatrixInverse.mono : ∀ a0 k, LeO (twoslotlaw03_MatrixInverse.f k a0) (twoslotlaw03_MatrixInverse.f (k + 1) a0) := by
  intro a0 k
  unfold twoslotlaw03_MatrixInverse.f
  repeat' first
      | (with_reducible exact matrix_Inverse.mono _ _)
      | (with_reducible exact matrix_Mul.mono _ _ _)
      | (with_reducible exact matrix_Rank.mono _ _)
      | (with_reducible exact twoslotlaw03_alive.mono _)
      | (with_reducible exact twoslotlaw03_much.mono _ _)
      | (with_reducible exact twoslotref03_Same.mono _ _ _)
      | (with_reducible exact LeO.refl _)
      | (with_reducible exact LeO.none _)
      | (with_reducible refine LeO.ite ?_ ?_)
      | (with_reducible refine LeO.bind ?_ (fun _ => ?_))
      | exact matrix_Inverse.mono _ _
      | exact matrix_Mul.mono _ _ _
      | exact matrix_Rank.mono _ _
      | exact twoslotlaw03_alive.mono _
      | exact twoslotlaw03_much.mono _ _
      | exact twoslotref03_Same.mono _ _ _
      | exact LeO.none _
      | refine LeO.ite ?_ ?_
      | refine LeO.bind ?_ (fun _ => ?_)
set_option maxHeartbeats 8000000 in
set_option maxRecDepth 100000 in
theorem twoslotlaw03_MatrixInverse.calls (k : Nat) (A0 : Option Addr) (c0 : Nat) (l0 : List (List Int)) (r : Bool) (w : World) (hr0 : Kd.C (Kd.slice 5 (Kd.int .u8)) w A0 l0.length l0) (hc0 : l0.length ≤ c0) (h : twoslotlaw03_MatrixInverse.f k l0 = some r) :
    Calls Try.prog 5 #[.slice A0 l0.length c0] w fun e w' => e = .returned (.bool r) ∧ Below w.heap.size w w' := by
  have HR0 := Aside0.mk hr0
  have HC0 := Aside0.mk hc0
  clear hr0 hc0
  have HB := Aside0.mk (Below.refl w.heap.size w)
  have H : ((twoslotlaw03_alive.f k).bind fun t203 => (if t203 = true then ((twoslotlaw03_much.f k l0).bind fun t204 => (if t204 = true then (some true) else ((matrix_Inverse.f k l0).bind fun bt205 => ((matrix_Rank.f k l0).bind fun bt209 => (if bt209.2 = 0 then (if 0 < (l0.length : Int) then (if (l0.length : Int) = ((rd_L1 l0 0).length : Int) then (if bt205.2 = 0 then ((matrix_Mul.f k l0 bt205.1).bind fun bt212 => ((matrix_Mul.f k bt205.1 l0).bind fun bt216 => ((matrix_One.f (l0.length : Int)).bind fun bt220 => ((matrix_Inverse.f k bt205.1).bind fun bt224 => (if bt212.2 = 0 then (if bt216.2 = 0 then (if bt220.2 = 0 then (if bt224.2 = 0 then (if bt209.1 = (l0.length : Int) then ((twoslotref03_Same.f k bt212.1 bt220.1).bind fun t228 => (if t228 = true then ((twoslotref03_Same.f k bt216.1 bt220.1).bind fun t229 => (if t229 = true then ((twoslotref03_Same.f k bt224.1 l0).bind fun t230 => (some t230)) else (none))) else (none))) else (none)) else (none)) else (none)) else (none)) else (none)))))) else (if bt205.2 = 5 then (if bt209.1 < (l0.length : Int) then (some ((bt205.1.length : Int) == 0)) else (none)) else (none))) else (if bt205.2 = 30 then (some ((bt205.1.length : Int) == 0)) else (none))) else (none)) else (if bt209.1 = 0 then (if bt205.2 = 30 then (some ((bt205.1.length : Int) == 0)) else (none)) else (none))))))) else (none))) = some r := h
  clear h
  replace H := Option.bind_eq_some_iff.mp H
  obtain ⟨t203, A20, H⟩ := H
  replace H : (if t203 = true then ((twoslotlaw03_much.f k l0).bind fun t204 => (if t204 = true then (some true) else ((matrix_Inverse.f k l0).bind fun bt205 => ((matrix_Rank.f k l0).bind fun bt209 => (if bt209.2 = 0 then (if 0 < (l0.length : Int) then (if (l0.length : Int) = ((rd_L1 l0 0).length : Int) then (if bt205.2 = 0 then ((matrix_Mul.f k l0 bt205.1).bind fun bt212 => ((matrix_Mul.f k bt205.1 l0).bind fun bt216 => ((matrix_One.f (l0.length : Int)).bind fun bt220 => ((matrix_Inverse.f k bt205.1).bind fun bt224 => (if bt212.2 = 0 then (if bt216.2 = 0 then (if bt220.2 = 0 then (if bt224.2 = 0 then (if bt209.1 = (l0.length : Int) then ((twoslotref03_Same.f k bt212.1 bt220.1).bind fun t228 => (if t228 = true then ((twoslotref03_Same.f k bt216.1 bt220.1).bind fun t229 => (if t229 = true then ((twoslotref03_Same.f k bt224.1 l0).bind fun t230 => (some t230)) else (none))) else (none))) else (none)) else (none)) else (none)) else (none)) else (none)))))) else (if bt205.2 = 5 then (if bt209.1 < (l0.length : Int) then (some ((bt205.1.length : Int) == 0)) else (none)) else (none))) else (if bt205.2 = 30 then (some ((bt205.1.length : Int) == 0)) else (none))) else (none)) else (if bt209.1 = 0 then (if bt205.2 = 30 then (some ((bt205.1.length : Int) == 0)) else (none)) else (none))))))) else (none)) = some r := H
  have A2 := Aside0.mk A20
  clear A20
  by_cases c3 : t203 = true
  · subst c3
    have H1 : ((twoslotlaw03_much.f k l0).bind fun t204 => (if t204 = true then (some true) else ((matrix_Inverse.f k l0).bind fun bt205 => ((matrix_Rank.f k l0).bind fun bt209 => (if bt209.2 = 0 then (if 0 < (l0.length : Int) then (if (l0.length : Int) = ((rd_L1 l0 0).length : Int) then (if bt205.2 = 0 then ((matrix_Mul.f k l0 bt205.1).bind fun bt212 => ((matrix_Mul.f k bt205.1 l0).bind fun bt216 => ((matrix_One.f (l0.length : Int)).bind fun bt220 => ((matrix_Inverse.f k bt205.1).bind fun bt224 => (if bt212.2 = 0 then (if bt216.2 = 0 then (if bt220.2 = 0 then (if bt224.2 = 0 then (if bt209.1 = (l0.length : Int) then ((twoslotref03_Same.f k bt212.1 bt220.1).bind fun t228 => (if t228 = true then ((twoslotref03_Same.f k bt216.1 bt220.1).bind fun t229 => (if t229 = true then ((twoslotref03_Same.f k bt224.1 l0).bind fun t230 => (some t230)) else (none))) else (none))) else (none)) else (none)) else (none)) else (none)) else (none)))))) else (if bt205.2 = 5 then (if bt209.1 < (l0.length : Int) then (some ((bt205.1.length : Int) == 0)) else (none)) else (none))) else (if bt205.2 = 30 then (some ((bt205.1.length : Int) == 0)) else (none))) else (none)) else (if bt209.1 = 0 then (if bt205.2 = 30 then (some ((bt205.1.length : Int) == 0)) else (none)) else (none))))))) = some r := by rw [if_pos rfl] at H; exact H
    clear H
    have H := H1
    clear H1
    replace H := Option.bind_eq_some_iff.mp H
    obtain ⟨t204, A40, H⟩ := H
    replace H : (if t204 = true then (some true) else ((matrix_Inverse.f k l0).bind fun bt205 => ((matrix_Rank.f k l0).bind fun bt209 => (if bt209.2 = 0 then (if 0 < (l0.length : Int) then (if (l0.length : Int) = ((rd_L1 l0 0).length : Int) then (if bt205.2 = 0 then ((matrix_Mul.f k l0 bt205.1).bind fun bt212 => ((matrix_Mul.f k bt205.1 l0).bind fun bt216 => ((matrix_One.f (l0.length : Int)).bind fun bt220 => ((matrix_Inverse.f k bt205.1).bind fun bt224 => (if bt212.2 = 0 then (if bt216.2 = 0 then (if bt220.2 = 0 then (if bt224.2 = 0 then (if bt209.1 = (l0.length : Int) then ((twoslotref03_Same.f k bt212.1 bt220.1).bind fun t228 => (if t228 = true then ((twoslotref03_Same.f k bt216.1 bt220.1).bind fun t229 => (if t229 = true then ((twoslotref03_Same.f k bt224.1 l0).bind fun t230 => (some t230)) else (none))) else (none))) else (none)) else (none)) else (none)) else (none)) else (none)))))) else (if bt205.2 = 5 then (if bt209.1 < (l0.length : Int) then (some ((bt205.1.length : Int) == 0)) else (none)) else (none))) else (if bt205.2 = 30 then (some ((bt205.1.length : Int) == 0)) else (none))) else (none)) else (if bt209.1 = 0 then (if bt205.2 = 30 then (some ((bt205.1.length : Int) == 0)) else (none)) else (none)))))) = some r := H
    have A4 := Aside0.mk A40
    clear A40
    by_cases c5 : t204 = true
    · subst c5
      have H1 : (some true) = some r := by rw [if_pos rfl] at H; exact H
      clear H
      have H := H1
      clear H1
      obtain rfl := Option.some.inj H
      go_enter Try.func5, Try.ntmps5
      go_wp2_with (first | ((with_reducible refine gate_callee (f := 9) rfl ?_); refine goesL_ (some 16) rfl rfl Try.func9 (by kernel_rfl) rfl #[] rfl (by (try simp only [List.map_toArray, List.map_cons, List.map_nil]); first | done | rfl | (simp only [List.length_drop, List.length_take]; rfl)) ?_; (with_reducible refine (twoslotlaw03_alive.calls k  true _ A2.out).mono ?_); rintro e w6 ⟨rfl, hb⟩; refine ⟨_, rfl, ?_⟩; have n0_ := Aside0.mk (below_step (by repeat (first | (with_reducible first | exact HB.out | apply below_alloc | apply pw_below_drewN | apply below_drew1) | exact HB.out)) hb); clear HB; have HB := n0_; clear n0_; (try clear hb); (try clear hb2); (try clear hk); (try clear hi)) | ((with_reducible refine gate_callee (f := 17) rfl ?_); refine goesL_ (some 20) rfl rfl Try.func17 (by kernel_rfl) rfl #[.slice A0 l0.length c0] rfl (by (try simp only [List.map_toArray, List.map_cons, List.map_nil]); first | done | rfl | (simp only [List.length_drop, List.length_take]; rfl)) ?_; (with_reducible refine (twoslotlaw03_much.calls k _ _ l0 true _ ?side1 ?side2 A4.out).mono ?_); (case side1 => repeat (first | exact (Kd.C_below HR0.out HB.out) | (with_reducible refine Kd.C_alloc ?_ _) | (with_reducible refine Kd.C_drewN ?_ _) | (with_reducible refine Kd.C_drew ?_))); (case side2 => exact HC0.out); rintro e w' ⟨rfl, ⟨nd, rfl⟩⟩; refine ⟨_, rfl, ?_⟩))
      go_ret
      exact ⟨by first | rfl | (simp [errW_none, errW_some] <;> rfl) | (simp [*, errW_none, errW_some] <;> rfl), by repeat (first | (with_reducible first | exact HB.out | apply below_alloc | apply pw_below_drewN | apply below_drew1) | exact HB.out)⟩
    · replace c5 := Bool.eq_false_iff.mpr c5
      subst c5
      have H1 : ((matrix_Inverse.f k l0).bind fun bt205 => ((matrix_Rank.f k l0).bind fun bt209 => (if bt209.2 = 0 then (if 0 < (l0.length : Int) then (if (l0.length : Int) = ((rd_L1 l0 0).length : Int) then (if bt205.2 = 0 then ((matrix_Mul.f k l0 bt205.1).bind fun bt212 => ((matrix_Mul.f k bt205.1 l0).bind fun bt216 => ((matrix_One.f (l0.length : Int)).bind fun bt220 => ((matrix_Inverse.f k bt205.1).bind fun bt224 => (if bt212.2 = 0 then (if bt216.2 = 0 then (if bt220.2 = 0 then (if bt224.2 = 0 then (if bt209.1 = (l0.length : Int) then ((twoslotref03_Same.f k bt212.1 bt220.1).bind fun t228 => (if t228 = true then ((twoslotref03_Same.f k bt216.1 bt220.1).bind fun t229 => (if t229 = true then ((twoslotref03_Same.f k bt224.1 l0).bind fun t230 => (some t230)) else (none))) else (none))) else (none)) else (none)) else (none)) else (none)) else (none)))))) else (if bt205.2 = 5 then (if bt209.1 < (l0.length : Int) then (some ((bt205.1.length : Int) == 0)) else (none)) else (none))) else (if bt205.2 = 30 then (some ((bt205.1.length : Int) == 0)) else (none))) else (none)) else (if bt209.1 = 0 then (if bt205.2 = 30 then (some ((bt205.1.length : Int) == 0)) else (none)) else (none))))) = some r := by rw [if_neg (show ¬ (false = true) by decide)] at H; exact H
      clear H
      have H := H1
      clear H1
      replace H := Option.bind_eq_some_iff.mp H
      obtain ⟨⟨t205, t206⟩, A70, H⟩ := H
      replace H : ((matrix_Rank.f k l0).bind fun bt209 => (if bt209.2 = 0 then (if 0 < (l0.length : Int) then (if (l0.length : Int) = ((rd_L1 l0 0).length : Int) then (if t206 = 0 then ((matrix_Mul.f k l0 t205).bind fun bt212 => ((matrix_Mul.f k t205 l0).bind fun bt216 => ((matrix_One.f (l0.length : Int)).bind fun bt220 => ((matrix_Inverse.f k t205).bind fun bt224 => (if bt212.2 = 0 then (if bt216.2 = 0 then (if bt220.2 = 0 then (if bt224.2 = 0 then (if bt209.1 = (l0.length : Int) then ((twoslotref03_Same.f k bt212.1 bt220.1).bind fun t228 => (if t228 = true then ((twoslotref03_Same.f k bt216.1 bt220.1).bind fun t229 => (if t229 = true then ((twoslotref03_Same.f k bt224.1 l0).bind fun t230 => (some t230)) else (none))) else (none))) else (none)) else (none)) else (none)) else (none)) else (none)))))) else (if t206 = 5 then (if bt209.1 < (l0.length : Int) then (some ((t205.length : Int) == 0)) else (none)) else (none))) else (if t206 = 30 then (some ((t205.length : Int) == 0)) else (none))) else (none)) else (if bt209.1 = 0 then (if t206 = 30 then (some ((t205.length : Int) == 0)) else (none)) else (none)))) = some r := H
      have A7 := Aside0.mk A70
      clear A70
      replace H := Option.bind_eq_some_iff.mp H
      obtain ⟨⟨t209, t210⟩, A80, H⟩ := H
      replace H : (if t210 = 0 then (if 0 < (l0.length : Int) then (if (l0.length : Int) = ((rd_L1 l0 0).length : Int) then (if t206 = 0 then ((matrix_Mul.f k l0 t205).bind fun bt212 => ((matrix_Mul.f k t205 l0).bind fun bt216 => ((matrix_One.f (l0.length : Int)).bind fun bt220 => ((matrix_Inverse.f k t205).bind fun bt224 => (if bt212.2 = 0 then (if bt216.2 = 0 then (if bt220.2 = 0 then (if bt224.2 = 0 then (if t209 = (l0.length : Int) then ((twoslotref03_Same.f k bt212.1 bt220.1).bind fun t228 => (if t228 = true then ((twoslotref03_Same.f k bt216.1 bt220.1).bind fun t229 => (if t229 = true then ((twoslotref03_Same.f k bt224.1 l0).bind fun t230 => (some t230)) else (none))) else (none))) else (none)) else (none)) else (none)) else (none)) else (none)))))) else (if t206 = 5 then (if t209 < (l0.length : Int) then (some ((t205.length : Int) == 0)) else (none)) else (none))) else (if t206 = 30 then (some ((t205.length : Int) == 0)) else (none))) else (none)) else (if t209 = 0 then (if t206 = 30 then (some ((t205.length : Int) == 0)) else (none)) else (none))) = some r := H
      have A8 := Aside0.mk A80
      clear A80
      by_cases c9 : t210 = 0
      · rw [if_pos c9] at H
        have c9b0 : (t210 == 0) = true := beq_iff_eq.mpr c9
        have c9b1 : (t210 != 0) = false := bne_eq_false_iff_eq.mpr c9
        clear c9
        by_cases c10 : 0 < (l0.length : Int)
        · rw [if_pos c10] at H
          have c10b0 : decide (0 < (l0.length : Int)) = true := decide_eq_true c10
          have c10b1 : decide (0 < l0.length) = true := decide_eq_true (by omega)
          clear c10
          by_cases c11 : (l0.length : Int) = ((rd_L1 l0 0).length : Int)
          · rw [if_pos c11] at H
            have c11b0 : ((l0.length : Int) == ((rd_L1 l0 0).length : Int)) = true := beq_iff_eq.mpr c11
            have c11b1 : ((l0.length : Int) != ((rd_L1 l0 0).length : Int)) = false := bne_eq_false_iff_eq.mpr c11
            have c11b2 : (l0.length == (rd_L1 l0 0).length) = true := by first | simpa using c11 | (simp at c11 ⊢; omega)
            clear c11
            by_cases c12 : t206 = 0
            · rw [if_pos c12] at H
              have c12b0 : (t206 == 0) = true := beq_iff_eq.mpr c12
              have c12b1 : (t206 != 0) = false := bne_eq_false_iff_eq.mpr c12
              clear c12
              replace H := Option.bind_eq_some_iff.mp H
              obtain ⟨⟨t212, t213⟩, A130, H⟩ := H
              replace H : ((matrix_Mul.f k t205 l0).bind fun bt216 => ((matrix_One.f (l0.length : Int)).bind fun bt220 => ((matrix_Inverse.f k t205).bind fun bt224 => (if t213 = 0 then (if bt216.2 = 0 then (if bt220.2 = 0 then (if bt224.2 = 0 then (if t209 = (l0.length : Int) then ((twoslotref03_Same.f k t212 bt220.1).bind fun t228 => (if t228 = true then ((twoslotref03_Same.f k bt216.1 bt220.1).bind fun t229 => (if t229 = true then ((twoslotref03_Same.f k bt224.1 l0).bind fun t230 => (some t230)) else (none))) else (none))) else (none)) else (none)) else (none)) else (none)) else (none))))) = some r := H
              have A13 := Aside0.mk A130
              clear A130
              replace H := Option.bind_eq_some_iff.mp H
              obtain ⟨⟨t216, t217⟩, A140, H⟩ := H
              replace H : ((matrix_One.f (l0.length : Int)).bind fun bt220 => ((matrix_Inverse.f k t205).bind fun bt224 => (if t213 = 0 then (if t217 = 0 then (if bt220.2 = 0 then (if bt224.2 = 0 then (if t209 = (l0.length : Int) then ((twoslotref03_Same.f k t212 bt220.1).bind fun t228 => (if t228 = true then ((twoslotref03_Same.f k t216 bt220.1).bind fun t229 => (if t229 = true then ((twoslotref03_Same.f k bt224.1 l0).bind fun t230 => (some t230)) else (none))) else (none))) else (none)) else (none)) else (none)) else (none)) else (none)))) = some r := H
              have A14 := Aside0.mk A140
              clear A140
              replace H := Option.bind_eq_some_iff.mp H
              obtain ⟨⟨t220, t221⟩, A150, H⟩ := H
              replace H : ((matrix_Inverse.f k t205).bind fun bt224 => (if t213 = 0 then (if t217 = 0 then (if t221 = 0 then (if bt224.2 = 0 then (if t209 = (l0.length : Int) then ((twoslotref03_Same.f k t212 t220).bind fun t228 => (if t228 = true then ((twoslotref03_Same.f k t216 t220).bind fun t229 => (if t229 = true then ((twoslotref03_Same.f k bt224.1 l0).bind fun t230 => (some t230)) else (none))) else (none))) else (none)) else (none)) else (none)) else (none)) else (none))) = some r := H
              have A15 := Aside0.mk A150
              clear A150
              replace H := Option.bind_eq_some_iff.mp H
              obtain ⟨⟨t224, t225⟩, A160, H⟩ := H
              replace H : (if t213 = 0 then (if t217 = 0 then (if t221 = 0 then (if t225 = 0 then (if t209 = (l0.length : Int) then ((twoslotref03_Same.f k t212 t220).bind fun t228 => (if t228 = true then ((twoslotref03_Same.f k t216 t220).bind fun t229 => (if t229 = true then ((twoslotref03_Same.f k t224 l0).bind fun t230 => (some t230)) else (none))) else (none))) else (none)) else (none)) else (none)) else (none)) else (none)) = some r := H
              have A16 := Aside0.mk A160
              clear A160
              by_cases c17 : t213 = 0
              · rw [if_pos c17] at H
                have c17b0 : (t213 == 0) = true := beq_iff_eq.mpr c17
                have c17b1 : (t213 != 0) = false := bne_eq_false_iff_eq.mpr c17
                clear c17
                by_cases c18 : t217 = 0
                · rw [if_pos c18] at H
                  have c18b0 : (t217 == 0) = true := beq_iff_eq.mpr c18
                  have c18b1 : (t217 != 0) = false := bne_eq_false_iff_eq.mpr c18
                  clear c18
                  by_cases c19 : t221 = 0
                  · rw [if_pos c19] at H
                    have c19b0 : (t221 == 0) = true := beq_iff_eq.mpr c19
                    have c19b1 : (t221 != 0) = false := bne_eq_false_iff_eq.mpr c19
                    clear c19
                    by_cases c20 : t225 = 0
                    · rw [if_pos c20] at H
                      have c20b0 : (t225 == 0) = true := beq_iff_eq.mpr c20
                      have c20b1 : (t225 != 0) = false := bne_eq_false_iff_eq.mpr c20
                      clear c20
                      by_cases c21 : t209 = (l0.length : Int)
                      · rw [if_pos c21] at H
                        have c21b0 : (t209 == (l0.length : Int)) = true := beq_iff_eq.mpr c21
                        have c21b1 : (t209 != (l0.length : Int)) = false := bne_eq_false_iff_eq.mpr c21
                        clear c21
                        replace H := Option.bind_eq_some_iff.mp H
                        obtain ⟨t228, A220, H⟩ := H
                        replace H : (if t228 = true then ((twoslotref03_Same.f k t216 t220).bind fun t229 => (if t229 = true then ((twoslotref03_Same.f k t224 l0).bind fun t230 => (some t230)) else (none))) else (none)) = some r := H
                        have A22 := Aside0.mk A220
                        clear A220
                        by_cases c23 : t228 = true
                        · subst c23
                          have H1 : ((twoslotref03_Same.f k t216 t220).bind fun t229 => (if t229 = true then ((twoslotref03_Same.f k t224 l0).bind fun t230 => (some t230)) else (none))) = some r := by rw [if_pos rfl] at H; exact H
                          clear H
                          have H := H1
                          clear H1
                          replace H := Option.bind_eq_some_iff.mp H
                          obtain ⟨t229, A240, H⟩ := H
                          replace H : (if t229 = true then ((twoslotref03_Same.f k t224 l0).bind fun t230 => (some t230)) else (none)) = some r := H
                          have A24 := Aside0.mk A240
                          clear A240
                          by_cases c25 : t229 = true
                          · subst c25
                            have H1 : ((twoslotref03_Same.f k t224 l0).bind fun t230 => (some t230)) = some r := by rw [if_pos rfl] at H; exact H
                            clear H
                            have H := H1
                            clear H1
                            replace H := Option.bind_eq_some_iff.mp H
                            obtain ⟨t230, A260, H⟩ := H
                            replace H : (some t230) = some r := H
                            have A26 := Aside0.mk A260
                            clear A260
                            obtain rfl := Option.some.inj H
                            go_enter Try.func5, Try.ntmps5
                            go_wp2_with (first | ((with_reducible refine gate_callee (f := 9) rfl ?_); refine goesL_ (some 16) rfl rfl Try.func9 (by kernel_rfl) rfl #[] rfl (by (try simp only [List.map_toArray, List.map_cons, List.map_nil]); first | done | rfl | (simp only [List.length_drop, List.length_take]; rfl)) ?_; (with_reducible refine (twoslotlaw03_alive.calls k  true _ A2.out).mono ?_); rintro e w27 ⟨rfl, hb⟩; refine ⟨_, rfl, ?_⟩; have n0_ := Aside0.mk (below_step (by repeat (first | (with_reducible first | exact HB.out | apply below_alloc | apply pw_below_drewN | apply below_drew1) | exact HB.out)) hb); clear HB; have HB := n0_; clear n0_; (try clear hb); (try clear hb2); (try clear hk); (try clear hi)) | ((with_reducible refine gate_callee (f := 17) rfl ?_); refine goesL_ (some 20) rfl rfl Try.func17 (by kernel_rfl) rfl #[.slice A0 l0.length c0] rfl (by (try simp only [List.map_toArray, List.map_cons, List.map_nil]); first | done | rfl | (simp only [List.length_drop, List.length_take]; rfl)) ?_; (with_reducible refine (twoslotlaw03_much.calls k _ _ l0 false _ ?side1 ?side2 A4.out).mono ?_); (case side1 => repeat (first | exact (Kd.C_below HR0.out HB.out) | (with_reducible refine Kd.C_alloc ?_ _) | (with_reducible refine Kd.C_drewN ?_ _) | (with_reducible refine Kd.C_drew ?_))); (case side2 => exact HC0.out); rintro e w' ⟨rfl, ⟨nd, rfl⟩⟩; refine ⟨_, rfl, ?_⟩) | ((with_reducible refine gate_callee (f := 15) rfl ?_); refine goesL_ (some 23) rfl rfl Try.func15 (by kernel_rfl) rfl #[.slice A0 l0.length c0] rfl (by (try simp only [List.map_toArray, List.map_cons, List.map_nil]); first | done | rfl | (simp only [List.length_drop, List.length_take]; rfl)) ?_; (with_reducible refine (matrix_Inverse.calls k _ _ l0 t205 t206 _ ?side1 ?side2 A7.out).mono ?_); (case side1 => repeat (first | exact (Kd.C_below HR0.out (by repeat (first | (with_reducible first | exact HB.out | apply below_alloc | apply pw_below_drewN | apply below_drew1) | exact HB.out))) | (with_reducible refine Kd.C_alloc ?_ _) | (with_reducible refine Kd.C_drewN ?_ _) | (with_reducible refine Kd.C_drew ?_))); (case side2 => exact HC0.out); rintro e w28 ⟨v207, rfl, ho0, hb⟩; refine ⟨_, rfl, ?_⟩; have n0_ := Aside0.mk (Kd.S_lower ho0 (below_size (by repeat (first | (with_reducible first | exact HB.out | apply below_alloc | apply pw_below_drewN | apply below_drew1) | exact HB.out)))); have n1_ := Aside0.mk (below_step (by repeat (first | (with_reducible first | exact HB.out | apply below_alloc | apply pw_below_drewN | apply below_drew1) | exact HB.out)) hb); clear HB; have HO208 := n0_; have HB := n1_; clear n0_ n1_; (try clear hb); (try clear hb2); (try clear hk); (try clear hi); (try clear ho0)) | ((with_reducible refine gate_callee (f := 24) rfl ?_); refine goesL_ (some 28) rfl rfl Try.func24 (by kernel_rfl) rfl #[.slice A0 l0.length c0] rfl (by (try simp only [List.map_toArray, List.map_cons, List.map_nil]); first | done | rfl | (simp only [List.length_drop, List.length_take]; rfl)) ?_; (with_reducible refine (matrix_Rank.calls k _ _ l0 t209 t210 _ ?side1 ?side2 A8.out).mono ?_); (case side1 => repeat (first | exact (Kd.C_below HR0.out HB.out) | (with_reducible refine Kd.C_alloc ?_ _) | (with_reducible refine Kd.C_drewN ?_ _) | (with_reducible refine Kd.C_drew ?_))); (case side2 => exact HC0.out); rintro e w29 ⟨rfl, hb⟩; refine ⟨_, rfl, ?_⟩; have n0_ := Aside0.mk (Kd.S_below (by (with_reducible repeat (first | apply Kd.S_alloc | apply Kd.S_drewN | apply Kd.S_drew)); exact HO208.out) hb); have n1_ := Aside0.mk (below_step (by repeat (first | (with_reducible first | exact HB.out | apply below_alloc | apply pw_below_drewN | apply below_drew1) | exact HB.out)) hb); clear HO208; clear HB; have HO208 := n0_; have HB := n1_; clear n0_ n1_; (try clear hb); (try clear hb2); (try clear hk); (try clear hi); have p211 : 0 ≤ (0 : Int) := (by omega); have q211 : 0 < (l0.length : Int) := of_decide_eq_true (by first | (with_reducible assumption) | assumption); obtain ⟨ad211, A211_0, c211_0, e211, hx211_0, hl211_0, hi211_0⟩ := at_L1 HR0.out 0 p211 q211; cases e211; have qi211 : (0 < l0.length) = True := eq_true (by omega); (try rw [show ((0 : Int)).toNat = 0 from rfl] at hx211_0); (try rw [Addr.add_zero'] at hx211_0); replace hx211_0 := (HB.out.cell (World.block_lt_of_cell? w _ hx211_0)).trans hx211_0; have HR211_0 := Aside0.mk hi211_0; have HC211_0 := Aside0.mk hl211_0; clear hi211_0 hl211_0; replace p211 := eq_true p211; replace q211 := eq_true q211; obtain ⟨Ao30, co30, eo30⟩ := Kd.S_slice HO208.out; subst eo30) | ((with_reducible refine gate_callee (f := 19) rfl ?_); refine goesL_ (some 76) rfl rfl Try.func19 (by kernel_rfl) rfl #[.slice (some ad211) l0.length c0, .slice Ao30 t205.length co30] rfl (by (try simp only [List.map_toArray, List.map_cons, List.map_nil]); first | done | rfl | (simp only [List.length_drop, List.length_take]; rfl)) ?_; (with_reducible refine (matrix_Mul.calls k _ _ l0 _ _ t205 t212 t213 _ ?side1 ?side2 ?side3 ?side4 A13.out).mono ?_); (case side1 => repeat (first | exact (Kd.C_below HR0.out HB.out) | (with_reducible refine Kd.C_alloc ?_ _) | (with_reducible refine Kd.C_drewN ?_ _) | (with_reducible refine Kd.C_drew ?_))); (case side2 => exact HC0.out); (case side3 => repeat (first | exact (Kd.S_reads' HO208.out).2.2 | (with_reducible refine Kd.C_alloc ?_ _) | (with_reducible refine Kd.C_drewN ?_ _) | (with_reducible refine Kd.C_drew ?_))); (case side4 => exact (Kd.S_reads' HO208.out).2.1); rintro e w31 ⟨v214, rfl, ho0, hb⟩; refine ⟨_, rfl, ?_⟩; have n0_ := Aside0.mk (Kd.S_elder' (by (with_reducible repeat (first | apply Kd.S_alloc | apply Kd.S_drewN | apply Kd.S_drew)); exact HO208.out) (Kd.S_base ho0) hb); have n1_ := Aside0.mk (Kd.S_lower (Kd.S_new' ho0 (Kd.S_lt (by (with_reducible repeat (first | apply Kd.S_alloc | apply Kd.S_drewN | apply Kd.S_drew)); exact HO208.out))) (below_size (by repeat (first | (with_reducible first | exact HB.out | apply below_alloc | apply pw_below_drewN | apply below_drew1) | exact HB.out)))); have n2_ := Aside0.mk (below_step (by repeat (first | (with_reducible first | exact HB.out | apply below_alloc | apply pw_below_drewN | apply below_drew1) | exact HB.out)) hb); clear HO208; clear HB; have HO208 := n0_; have HO215 := n1_; have HB := n2_; clear n0_ n1_ n2_; (try clear hb); (try clear hb2); (try clear hk); (try clear hi); (try clear ho0)) | ((with_reducible refine gate_callee (f := 19) rfl ?_); refine goesL_ (some 82) rfl rfl Try.func19 (by kernel_rfl) rfl #[.slice Ao30 t205.length co30, .slice (some ad211) l0.length c0] rfl (by (try simp only [List.map_toArray, List.map_cons, List.map_nil]); first | done | rfl | (simp only [List.length_drop, List.length_take]; rfl)) ?_; (with_reducible refine (matrix_Mul.calls k _ _ t205 _ _ l0 t216 t217 _ ?side1 ?side2 ?side3 ?side4 A14.out).mono ?_); (case side1 => repeat (first | exact (Kd.S_reads' HO208.out).2.2 | (with_reducible refine Kd.C_alloc ?_ _) | (with_reducible refine Kd.C_drewN ?_ _) | (with_reducible refine Kd.C_drew ?_))); (case side2 => exact (Kd.S_reads' HO208.out).2.1); (case side3 => repeat (first | exact (Kd.C_below HR0.out HB.out) | (with_reducible refine Kd.C_alloc ?_ _) | (with_reducible refine Kd.C_drewN ?_ _) | (with_reducible refine Kd.C_drew ?_))); (case side4 => exact HC0.out); rintro e w32 ⟨v218, rfl, ho0, hb⟩; refine ⟨_, rfl, ?_⟩; have n0_ := Aside0.mk (Kd.S_elder' (by (with_reducible repeat (first | apply Kd.S_alloc | apply Kd.S_drewN | apply Kd.S_drew)); exact HO208.out) (Kd.S_base ho0) hb); have n1_ := Aside0.mk (Kd.S_elder' (by (with_reducible repeat (first | apply Kd.S_alloc | apply Kd.S_drewN | apply Kd.S_drew)); exact HO215.out) (Kd.S_base ho0) hb); have n2_ := Aside0.mk (Kd.S_lower (Kd.S_new' (Kd.S_new' ho0 (Kd.S_lt (by (with_reducible repeat (first | apply Kd.S_alloc | apply Kd.S_drewN | apply Kd.S_drew)); exact HO208.out))) (Kd.S_lt (by (with_reducible repeat (first | apply Kd.S_alloc | apply Kd.S_drewN | apply Kd.S_drew)); exact HO215.out))) (below_size (by repeat (first | (with_reducible first | exact HB.out | apply below_alloc | apply pw_below_drewN | apply below_drew1) | exact HB.out)))); have n3_ := Aside0.mk (below_step (by repeat (first | (with_reducible first | exact HB.out | apply below_alloc | apply pw_below_drewN | apply below_drew1) | exact HB.out)) hb); clear HO208; clear HO215; clear HB; have HO208 := n0_; have HO215 := n1_; have HO219 := n2_; have HB := n3_; clear n0_ n1_ n2_ n3_; (try clear hb); (try clear hb2); (try clear hk); (try clear hi); (try clear ho0)) | ((with_reducible refine gate_callee (f := 10) rfl ?_); refine goesL_ (some 88) rfl rfl Try.func10 (by kernel_rfl) rfl #[.int .i64 (l0.length : Int)] rfl (by (try simp only [List.map_toArray, List.map_cons, List.map_nil]); first | done | rfl | (simp only [List.length_drop, List.length_take]; rfl)) ?_; (with_reducible refine (matrix_One.calls (l0.length : Int) t220 t221 _ A15.out).mono ?_); rintro e w33 ⟨v222, rfl, ho0, hb⟩; refine ⟨_, rfl, ?_⟩; have n0_ := Aside0.mk (Kd.S_elder' (by (with_reducible repeat (first | apply Kd.S_alloc | apply Kd.S_drewN | apply Kd.S_drew)); exact HO208.out) (Kd.S_base ho0) hb); have n1_ := Aside0.mk (Kd.S_elder' (by (with_reducible repeat (first | apply Kd.S_alloc | apply Kd.S_drewN | apply Kd.S_drew)); exact HO215.out) (Kd.S_base ho0) hb); have n2_ := Aside0.mk (Kd.S_elder' (by (with_reducible repeat (first | apply Kd.S_alloc | apply Kd.S_drewN | apply Kd.S_drew)); exact HO219.out) (Kd.S_base ho0) hb); have n3_ := Aside0.mk (Kd.S_lower (Kd.S_new' (Kd.S_new' (Kd.S_new' ho0 (Kd.S_lt (by (with_reducible repeat (first | apply Kd.S_alloc | apply Kd.S_drewN | apply Kd.S_drew)); exact HO208.out))) (Kd.S_lt (by (with_reducible repeat (first | apply Kd.S_alloc | apply Kd.S_drewN | apply Kd.S_drew)); exact HO215.out))) (Kd.S_lt (by (with_reducible repeat (first | apply Kd.S_alloc | apply Kd.S_drewN | apply Kd.S_drew)); exact HO219.out))) (below_size (by repeat (first | (with_reducible first | exact HB.out | apply below_alloc | apply pw_below_drewN | apply below_drew1) | exact HB.out)))); have n4_ := Aside0.mk (below_step (by repeat (first | (with_reducible first | exact HB.out | apply below_alloc | apply pw_below_drewN | apply below_drew1) | exact HB.out)) hb); clear HO208; clear HO215; clear HO219; clear HB; have HO208 := n0_; have HO215 := n1_; have HO219 := n2_; have HO223 := n3_; have HB := n4_; clear n0_ n1_ n2_ n3_ n4_; (try clear hb); (try clear hb2); (try clear hk); (try clear hi); (try clear ho0)) | ((with_reducible refine gate_callee (f := 15) rfl ?_); refine goesL_ (some 93) rfl rfl Try.func15 (by kernel_rfl) rfl #[.slice Ao30 t205.length co30] rfl (by (try simp only [List.map_toArray, List.map_cons, List.map_nil]); first | done | rfl | (simp only [List.length_drop, List.length_take]; rfl)) ?_; (with_reducible refine (matrix_Inverse.calls k _ _ t205 t224 t225 _ ?side1 ?side2 A16.out).mono ?_); (case side1 => repeat (first | exact (Kd.S_reads' HO208.out).2.2 | (with_reducible refine Kd.C_alloc ?_ _) | (with_reducible refine Kd.C_drewN ?_ _) | (with_reducible refine Kd.C_drew ?_))); (case side2 => exact (Kd.S_reads' HO208.out).2.1); rintro e w34 ⟨v226, rfl, ho0, hb⟩; refine ⟨_, rfl, ?_⟩; have n0_ := Aside0.mk (Kd.S_elder' (by (with_reducible repeat (first | apply Kd.S_alloc | apply Kd.S_drewN | apply Kd.S_drew)); exact HO208.out) (Kd.S_base ho0) hb); have n1_ := Aside0.mk (Kd.S_elder' (by (with_reducible repeat (first | apply Kd.S_alloc | apply Kd.S_drewN | apply Kd.S_drew)); exact HO215.out) (Kd.S_base ho0) hb); have n2_ := Aside0.mk (Kd.S_elder' (by (with_reducible repeat (first | apply Kd.S_alloc | apply Kd.S_drewN | apply Kd.S_drew)); exact HO219.out) (Kd.S_base ho0) hb); have n3_ := Aside0.mk (Kd.S_elder' (by (with_reducible repeat (first | apply Kd.S_alloc | apply Kd.S_drewN | apply Kd.S_drew)); exact HO223.out) (Kd.S_base ho0) hb); have n4_ := Aside0.mk (Kd.S_lower (Kd.S_new' (Kd.S_new' (Kd.S_new' (Kd.S_new' ho0 (Kd.S_lt (by (with_reducible repeat (first | apply Kd.S_alloc | apply Kd.S_drewN | apply Kd.S_drew)); exact HO208.out))) (Kd.S_lt (by (with_reducible repeat (first | apply Kd.S_alloc | apply Kd.S_drewN | apply Kd.S_drew)); exact HO215.out))) (Kd.S_lt (by (with_reducible repeat (first | apply Kd.S_alloc | apply Kd.S_drewN | apply Kd.S_drew)); exact HO219.out))) (Kd.S_lt (by (with_reducible repeat (first | apply Kd.S_alloc | apply Kd.S_drewN | apply Kd.S_drew)); exact HO223.out))) (below_size (by repeat (first | (with_reducible first | exact HB.out | apply below_alloc | apply pw_below_drewN | apply below_drew1) | exact HB.out)))); have n5_ := Aside0.mk (below_step (by repeat (first | (with_reducible first | exact HB.out | apply below_alloc | apply pw_below_drewN | apply below_drew1) | exact HB.out)) hb); clear HO208; clear HO215; clear HO219; clear HO223; clear HB; have HO208 := n0_; have HO215 := n1_; have HO219 := n2_; have HO223 := n3_; have HO227 := n4_; have HB := n5_; clear n0_ n1_ n2_ n3_ n4_ n5_; (try clear hb); (try clear hb2); (try clear hk); (try clear hi); (try clear ho0); obtain ⟨Ao35, co35, eo35⟩ := Kd.S_slice HO215.out; subst eo35; obtain ⟨Ao36, co36, eo36⟩ := Kd.S_slice HO223.out; subst eo36) | (go_at_call 16; (with_reducible refine (twoslotref03_Same.calls k _ _ t212 _ _ t220 true _ ?side1 ?side2 ?side3 ?side4 A22.out).mono ?_); (case side1 => repeat (first | exact (Kd.S_reads' HO215.out).2.2 | (with_reducible refine Kd.C_alloc ?_ _) | (with_reducible refine Kd.C_drewN ?_ _) | (with_reducible refine Kd.C_drew ?_))); (case side2 => exact (Kd.S_reads' HO215.out).2.1); (case side3 => repeat (first | exact (Kd.S_reads' HO223.out).2.2 | (with_reducible refine Kd.C_alloc ?_ _) | (with_reducible refine Kd.C_drewN ?_ _) | (with_reducible refine Kd.C_drew ?_))); (case side4 => exact (Kd.S_reads' HO223.out).2.1); rintro e w' ⟨rfl, ⟨nd, rfl⟩⟩; obtain ⟨Ao37, co37, eo37⟩ := Kd.S_slice HO219.out; subst eo37) | (go_at_call 16; (with_reducible refine (twoslotref03_Same.calls k _ _ t216 _ _ t220 true _ ?side1 ?side2 ?side3 ?side4 A24.out).mono ?_); (case side1 => repeat (first | exact (Kd.S_reads' HO219.out).2.2 | (with_reducible refine Kd.C_alloc ?_ _) | (with_reducible refine Kd.C_drewN ?_ _) | (with_reducible refine Kd.C_drew ?_))); (case side2 => exact (Kd.S_reads' HO219.out).2.1); (case side3 => repeat (first | exact (Kd.S_reads' HO223.out).2.2 | (with_reducible refine Kd.C_alloc ?_ _) | (with_reducible refine Kd.C_drewN ?_ _) | (with_reducible refine Kd.C_drew ?_))); (case side4 => exact (Kd.S_reads' HO223.out).2.1); rintro e w' ⟨rfl, ⟨nd, rfl⟩⟩; obtain ⟨Ao38, co38, eo38⟩ := Kd.S_slice HO227.out; subst eo38) | (go_at_call 16; (with_reducible refine (twoslotref03_Same.calls k _ _ t224 _ _ l0 t230 _ ?side1 ?side2 ?side3 ?side4 A26.out).mono ?_); (case side1 => repeat (first | exact (Kd.S_reads' HO227.out).2.2 | (with_reducible refine Kd.C_alloc ?_ _) | (with_reducible refine Kd.C_drewN ?_ _) | (with_reducible refine Kd.C_drew ?_))); (case side2 => exact (Kd.S_reads' HO227.out).2.1); (case side3 => repeat (first | exact (Kd.C_below HR0.out (by repeat (first | (with_reducible first | exact HB.out | apply below_alloc | apply pw_below_drewN | apply below_drew1) | exact HB.out))) | (with_reducible refine Kd.C_alloc ?_ _) | (with_reducible refine Kd.C_drewN ?_ _) | (with_reducible refine Kd.C_drew ?_))); (case side4 => exact HC0.out); rintro e w' ⟨rfl, ⟨nd, rfl⟩⟩))
                            go_ret
                            exact ⟨by first | rfl | (simp [errW_none, errW_some] <;> rfl) | (simp [*, errW_none, errW_some] <;> rfl), by repeat (first | (with_reducible first | exact HB.out | apply below_alloc | apply pw_below_drewN | apply below_drew1) | exact HB.out)⟩
                          · replace c25 := Bool.eq_false_iff.mpr c25
                            subst c25
                            have H1 : (none) = some r := by rw [if_neg (show ¬ (false = true) by decide)] at H; exact H
                            clear H
                            have H := H1
                            clear H1
                            exact absurd H (by simp)
                        · replace c23 := Bool.eq_false_iff.mpr c23
                          subst c23
                          have H1 : (none) = some r := by rw [if_neg (show ¬ (false = true) by decide)] at H; exact H
                          clear H
                          have H := H1
                          clear H1
                          exact absurd H (by simp)
                      · rw [if_neg c21] at H
                        exact absurd H (by simp)
                    · rw [if_neg c20] at H
                      exact absurd H (by simp)
                  · rw [if_neg c19] at H
                    exact absurd H (by simp)
                · rw [if_neg c18] at H
                  exact absurd H (by simp)
              · rw [if_neg c17] at H
                exact absurd H (by simp)
            · rw [if_neg c12] at H
              have c12b0 : (t206 == 0) = false := beq_eq_false_iff_ne.mpr c12
              have c12b1 : (t206 != 0) = true := bne_iff_ne.mpr c12
              by_cases c39 : t206 = 5
              · rw [if_pos c39] at H
                have c39b0 : (t206 == 5) = true := beq_iff_eq.mpr c39
                have c39b1 : (t206 != 5) = false := bne_eq_false_iff_eq.mpr c39
                clear c39
                by_cases c40 : t209 < (l0.length : Int)
                · rw [if_pos c40] at H
                  have c40b0 : decide (t209 < (l0.length : Int)) = true := decide_eq_true c40
                  clear c40
                  obtain rfl := Option.some.inj H
                  go_enter Try.func5, Try.ntmps5
                  go_wp2_with (first | ((with_reducible refine gate_callee (f := 9) rfl ?_); refine goesL_ (some 16) rfl rfl Try.func9 (by kernel_rfl) rfl #[] rfl (by (try simp only [List.map_toArray, List.map_cons, List.map_nil]); first | done | rfl | (simp only [List.length_drop, List.length_take]; rfl)) ?_; (with_reducible refine (twoslotlaw03_alive.calls k  true _ A2.out).mono ?_); rintro e w41 ⟨rfl, hb⟩; refine ⟨_, rfl, ?_⟩; have n0_ := Aside0.mk (below_step (by repeat (first | (with_reducible first | exact HB.out | apply below_alloc | apply pw_below_drewN | apply below_drew1) | exact HB.out)) hb); clear HB; have HB := n0_; clear n0_; (try clear hb); (try clear hb2); (try clear hk); (try clear hi)) | ((with_reducible refine gate_callee (f := 17) rfl ?_); refine goesL_ (some 20) rfl rfl Try.func17 (by kernel_rfl) rfl #[.slice A0 l0.length c0] rfl (by (try simp only [List.map_toArray, List.map_cons, List.map_nil]); first | done | rfl | (simp only [List.length_drop, List.length_take]; rfl)) ?_; (with_reducible refine (twoslotlaw03_much.calls k _ _ l0 false _ ?side1 ?side2 A4.out).mono ?_); (case side1 => repeat (first | exact (Kd.C_below HR0.out HB.out) | (with_reducible refine Kd.C_alloc ?_ _) | (with_reducible refine Kd.C_drewN ?_ _) | (with_reducible refine Kd.C_drew ?_))); (case side2 => exact HC0.out); rintro e w' ⟨rfl, ⟨nd, rfl⟩⟩; refine ⟨_, rfl, ?_⟩) | ((with_reducible refine gate_callee (f := 15) rfl ?_); refine goesL_ (some 23) rfl rfl Try.func15 (by kernel_rfl) rfl #[.slice A0 l0.length c0] rfl (by (try simp only [List.map_toArray, List.map_cons, List.map_nil]); first | done | rfl | (simp only [List.length_drop, List.length_take]; rfl)) ?_; (with_reducible refine (matrix_Inverse.calls k _ _ l0 t205 t206 _ ?side1 ?side2 A7.out).mono ?_); (case side1 => repeat (first | exact (Kd.C_below HR0.out (by repeat (first | (with_reducible first | exact HB.out | apply below_alloc | apply pw_below_drewN | apply below_drew1) | exact HB.out))) | (with_reducible refine Kd.C_alloc ?_ _) | (with_reducible refine Kd.C_drewN ?_ _) | (with_reducible refine Kd.C_drew ?_))); (case side2 => exact HC0.out); rintro e w42 ⟨v207, rfl, ho0, hb⟩; refine ⟨_, rfl, ?_⟩; have n0_ := Aside0.mk (Kd.S_lower ho0 (below_size (by repeat (first | (with_reducible first | exact HB.out | apply below_alloc | apply pw_below_drewN | apply below_drew1) | exact HB.out)))); have n1_ := Aside0.mk (below_step (by repeat (first | (with_reducible first | exact HB.out | apply below_alloc | apply pw_below_drewN | apply below_drew1) | exact HB.out)) hb); clear HB; have HO208 := n0_; have HB := n1_; clear n0_ n1_; (try clear hb); (try clear hb2); (try clear hk); (try clear hi); (try clear ho0)) | ((with_reducible refine gate_callee (f := 24) rfl ?_); refine goesL_ (some 28) rfl rfl Try.func24 (by kernel_rfl) rfl #[.slice A0 l0.length c0] rfl (by (try simp only [List.map_toArray, List.map_cons, List.map_nil]); first | done | rfl | (simp only [List.length_drop, List.length_take]; rfl)) ?_; (with_reducible refine (matrix_Rank.calls k _ _ l0 t209 t210 _ ?side1 ?side2 A8.out).mono ?_); (case side1 => repeat (first | exact (Kd.C_below HR0.out HB.out) | (with_reducible refine Kd.C_alloc ?_ _) | (with_reducible refine Kd.C_drewN ?_ _) | (with_reducible refine Kd.C_drew ?_))); (case side2 => exact HC0.out); rintro e w43 ⟨rfl, hb⟩; refine ⟨_, rfl, ?_⟩; have n0_ := Aside0.mk (Kd.S_below (by (with_reducible repeat (first | apply Kd.S_alloc | apply Kd.S_drewN | apply Kd.S_drew)); exact HO208.out) hb); have n1_ := Aside0.mk (below_step (by repeat (first | (with_reducible first | exact HB.out | apply below_alloc | apply pw_below_drewN | apply below_drew1) | exact HB.out)) hb); clear HO208; clear HB; have HO208 := n0_; have HB := n1_; clear n0_ n1_; (try clear hb); (try clear hb2); (try clear hk); (try clear hi); have p211 : 0 ≤ (0 : Int) := (by omega); have q211 : 0 < (l0.length : Int) := of_decide_eq_true (by first | (with_reducible assumption) | assumption); obtain ⟨ad211, A211_0, c211_0, e211, hx211_0, hl211_0, hi211_0⟩ := at_L1 HR0.out 0 p211 q211; cases e211; have qi211 : (0 < l0.length) = True := eq_true (by omega); (try rw [show ((0 : Int)).toNat = 0 from rfl] at hx211_0); (try rw [Addr.add_zero'] at hx211_0); replace hx211_0 := (HB.out.cell (World.block_lt_of_cell? w _ hx211_0)).trans hx211_0; have HR211_0 := Aside0.mk hi211_0; have HC211_0 := Aside0.mk hl211_0; clear hi211_0 hl211_0; replace p211 := eq_true p211; replace q211 := eq_true q211; obtain ⟨Ao44, co44, eo44⟩ := Kd.S_slice HO208.out; subst eo44))
                  go_ret
                  exact ⟨by first | rfl | (simp [errW_none, errW_some] <;> rfl) | (simp [*, errW_none, errW_some] <;> rfl), by repeat (first | (with_reducible first | exact HB.out | apply below_alloc | apply pw_below_drewN | apply below_drew1) | exact HB.out)⟩
                · rw [if_neg c40] at H
                  exact absurd H (by simp)
              · rw [if_neg c39] at H
                exact absurd H (by simp)
          · rw [if_neg c11] at H
            have c11b0 : ((l0.length : Int) == ((rd_L1 l0 0).length : Int)) = false := beq_eq_false_iff_ne.mpr c11
            have c11b1 : ((l0.length : Int) != ((rd_L1 l0 0).length : Int)) = true := bne_iff_ne.mpr c11
            have c11b2 : (l0.length == (rd_L1 l0 0).length) = false := by first | simpa using c11 | (simp at c11 ⊢; omega)
            by_cases c45 : t206 = 30
            · rw [if_pos c45] at H
              have c45b0 : (t206 == 30) = true := beq_iff_eq.mpr c45
              have c45b1 : (t206 != 30) = false := bne_eq_false_iff_eq.mpr c45
              clear c45
              obtain rfl := Option.some.inj H
              go_enter Try.func5, Try.ntmps5
              go_wp2_with (first | ((with_reducible refine gate_callee (f := 9) rfl ?_); refine goesL_ (some 16) rfl rfl Try.func9 (by kernel_rfl) rfl #[] rfl (by (try simp only [List.map_toArray, List.map_cons, List.map_nil]); first | done | rfl | (simp only [List.length_drop, List.length_take]; rfl)) ?_; (with_reducible refine (twoslotlaw03_alive.calls k  true _ A2.out).mono ?_); rintro e w46 ⟨rfl, hb⟩; refine ⟨_, rfl, ?_⟩; have n0_ := Aside0.mk (below_step (by repeat (first | (with_reducible first | exact HB.out | apply below_alloc | apply pw_below_drewN | apply below_drew1) | exact HB.out)) hb); clear HB; have HB := n0_; clear n0_; (try clear hb); (try clear hb2); (try clear hk); (try clear hi)) | ((with_reducible refine gate_callee (f := 17) rfl ?_); refine goesL_ (some 20) rfl rfl Try.func17 (by kernel_rfl) rfl #[.slice A0 l0.length c0] rfl (by (try simp only [List.map_toArray, List.map_cons, List.map_nil]); first | done | rfl | (simp only [List.length_drop, List.length_take]; rfl)) ?_; (with_reducible refine (twoslotlaw03_much.calls k _ _ l0 false _ ?side1 ?side2 A4.out).mono ?_); (case side1 => repeat (first | exact (Kd.C_below HR0.out HB.out) | (with_reducible refine Kd.C_alloc ?_ _) | (with_reducible refine Kd.C_drewN ?_ _) | (with_reducible refine Kd.C_drew ?_))); (case side2 => exact HC0.out); rintro e w' ⟨rfl, ⟨nd, rfl⟩⟩; refine ⟨_, rfl, ?_⟩) | ((with_reducible refine gate_callee (f := 15) rfl ?_); refine goesL_ (some 23) rfl rfl Try.func15 (by kernel_rfl) rfl #[.slice A0 l0.length c0] rfl (by (try simp only [List.map_toArray, List.map_cons, List.map_nil]); first | done | rfl | (simp only [List.length_drop, List.length_take]; rfl)) ?_; (with_reducible refine (matrix_Inverse.calls k _ _ l0 t205 t206 _ ?side1 ?side2 A7.out).mono ?_); (case side1 => repeat (first | exact (Kd.C_below HR0.out (by repeat (first | (with_reducible first | exact HB.out | apply below_alloc | apply pw_below_drewN | apply below_drew1) | exact HB.out))) | (with_reducible refine Kd.C_alloc ?_ _) | (with_reducible refine Kd.C_drewN ?_ _) | (with_reducible refine Kd.C_drew ?_))); (case side2 => exact HC0.out); rintro e w47 ⟨v207, rfl, ho0, hb⟩; refine ⟨_, rfl, ?_⟩; have n0_ := Aside0.mk (Kd.S_lower ho0 (below_size (by repeat (first | (with_reducible first | exact HB.out | apply below_alloc | apply pw_below_drewN | apply below_drew1) | exact HB.out)))); have n1_ := Aside0.mk (below_step (by repeat (first | (with_reducible first | exact HB.out | apply below_alloc | apply pw_below_drewN | apply below_drew1) | exact HB.out)) hb); clear HB; have HO208 := n0_; have HB := n1_; clear n0_ n1_; (try clear hb); (try clear hb2); (try clear hk); (try clear hi); (try clear ho0)) | ((with_reducible refine gate_callee (f := 24) rfl ?_); refine goesL_ (some 28) rfl rfl Try.func24 (by kernel_rfl) rfl #[.slice A0 l0.length c0] rfl (by (try simp only [List.map_toArray, List.map_cons, List.map_nil]); first | done | rfl | (simp only [List.length_drop, List.length_take]; rfl)) ?_; (with_reducible refine (matrix_Rank.calls k _ _ l0 t209 t210 _ ?side1 ?side2 A8.out).mono ?_); (case side1 => repeat (first | exact (Kd.C_below HR0.out HB.out) | (with_reducible refine Kd.C_alloc ?_ _) | (with_reducible refine Kd.C_drewN ?_ _) | (with_reducible refine Kd.C_drew ?_))); (case side2 => exact HC0.out); rintro e w48 ⟨rfl, hb⟩; refine ⟨_, rfl, ?_⟩; have n0_ := Aside0.mk (Kd.S_below (by (with_reducible repeat (first | apply Kd.S_alloc | apply Kd.S_drewN | apply Kd.S_drew)); exact HO208.out) hb); have n1_ := Aside0.mk (below_step (by repeat (first | (with_reducible first | exact HB.out | apply below_alloc | apply pw_below_drewN | apply below_drew1) | exact HB.out)) hb); clear HO208; clear HB; have HO208 := n0_; have HB := n1_; clear n0_ n1_; (try clear hb); (try clear hb2); (try clear hk); (try clear hi); have p211 : 0 ≤ (0 : Int) := (by omega); have q211 : 0 < (l0.length : Int) := of_decide_eq_true (by first | (with_reducible assumption) | assumption); obtain ⟨ad211, A211_0, c211_0, e211, hx211_0, hl211_0, hi211_0⟩ := at_L1 HR0.out 0 p211 q211; cases e211; have qi211 : (0 < l0.length) = True := eq_true (by omega); (try rw [show ((0 : Int)).toNat = 0 from rfl] at hx211_0); (try rw [Addr.add_zero'] at hx211_0); replace hx211_0 := (HB.out.cell (World.block_lt_of_cell? w _ hx211_0)).trans hx211_0; have HR211_0 := Aside0.mk hi211_0; have HC211_0 := Aside0.mk hl211_0; clear hi211_0 hl211_0; replace p211 := eq_true p211; replace q211 := eq_true q211; obtain ⟨Ao49, co49, eo49⟩ := Kd.S_slice HO208.out; subst eo49))
              go_ret
              exact ⟨by first | rfl | (simp [errW_none, errW_some] <;> rfl) | (simp [*, errW_none, errW_some] <;> rfl), by repeat (first | (with_reducible first | exact HB.out | apply below_alloc | apply pw_below_drewN | apply below_drew1) | exact HB.out)⟩
            · rw [if_neg c45] at H
              exact absurd H (by simp)
        · rw [if_neg c10] at H
          exact absurd H (by simp)
      · rw [if_neg c9] at H
        have c9b0 : (t210 == 0) = false := beq_eq_false_iff_ne.mpr c9
        have c9b1 : (t210 != 0) = true := bne_iff_ne.mpr c9
        by_cases c50 : t209 = 0
        · rw [if_pos c50] at H
          have c50b0 : (t209 == 0) = true := beq_iff_eq.mpr c50
          have c50b1 : (t209 != 0) = false := bne_eq_false_iff_eq.mpr c50
          clear c50
          by_cases c51 : t206 = 30
          · rw [if_pos c51] at H
            have c51b0 : (t206 == 30) = true := beq_iff_eq.mpr c51
            have c51b1 : (t206 != 30) = false := bne_eq_false_iff_eq.mpr c51
            clear c51
            obtain rfl := Option.some.inj H
            go_enter Try.func5, Try.ntmps5
            go_wp2_with (first | ((with_reducible refine gate_callee (f := 9) rfl ?_); refine goesL_ (some 16) rfl rfl Try.func9 (by kernel_rfl) rfl #[] rfl (by (try simp only [List.map_toArray, List.map_cons, List.map_nil]); first | done | rfl | (simp only [List.length_drop, List.length_take]; rfl)) ?_; (with_reducible refine (twoslotlaw03_alive.calls k  true _ A2.out).mono ?_); rintro e w52 ⟨rfl, hb⟩; refine ⟨_, rfl, ?_⟩; have n0_ := Aside0.mk (below_step (by repeat (first | (with_reducible first | exact HB.out | apply below_alloc | apply pw_below_drewN | apply below_drew1) | exact HB.out)) hb); clear HB; have HB := n0_; clear n0_; (try clear hb); (try clear hb2); (try clear hk); (try clear hi)) | ((with_reducible refine gate_callee (f := 17) rfl ?_); refine goesL_ (some 20) rfl rfl Try.func17 (by kernel_rfl) rfl #[.slice A0 l0.length c0] rfl (by (try simp only [List.map_toArray, List.map_cons, List.map_nil]); first | done | rfl | (simp only [List.length_drop, List.length_take]; rfl)) ?_; (with_reducible refine (twoslotlaw03_much.calls k _ _ l0 false _ ?side1 ?side2 A4.out).mono ?_); (case side1 => repeat (first | exact (Kd.C_below HR0.out HB.out) | (with_reducible refine Kd.C_alloc ?_ _) | (with_reducible refine Kd.C_drewN ?_ _) | (with_reducible refine Kd.C_drew ?_))); (case side2 => exact HC0.out); rintro e w' ⟨rfl, ⟨nd, rfl⟩⟩; refine ⟨_, rfl, ?_⟩) | ((with_reducible refine gate_callee (f := 15) rfl ?_); refine goesL_ (some 23) rfl rfl Try.func15 (by kernel_rfl) rfl #[.slice A0 l0.length c0] rfl (by (try simp only [List.map_toArray, List.map_cons, List.map_nil]); first | done | rfl | (simp only [List.length_drop, List.length_take]; rfl)) ?_; (with_reducible refine (matrix_Inverse.calls k _ _ l0 t205 t206 _ ?side1 ?side2 A7.out).mono ?_); (case side1 => repeat (first | exact (Kd.C_below HR0.out (by repeat (first | (with_reducible first | exact HB.out | apply below_alloc | apply pw_below_drewN | apply below_drew1) | exact HB.out))) | (with_reducible refine Kd.C_alloc ?_ _) | (with_reducible refine Kd.C_drewN ?_ _) | (with_reducible refine Kd.C_drew ?_))); (case side2 => exact HC0.out); rintro e w53 ⟨v207, rfl, ho0, hb⟩; refine ⟨_, rfl, ?_⟩; have n0_ := Aside0.mk (Kd.S_lower ho0 (below_size (by repeat (first | (with_reducible first | exact HB.out | apply below_alloc | apply pw_below_drewN | apply below_drew1) | exact HB.out)))); have n1_ := Aside0.mk (below_step (by repeat (first | (with_reducible first | exact HB.out | apply below_alloc | apply pw_below_drewN | apply below_drew1) | exact HB.out)) hb); clear HB; have HO208 := n0_; have HB := n1_; clear n0_ n1_; (try clear hb); (try clear hb2); (try clear hk); (try clear hi); (try clear ho0)) | ((with_reducible refine gate_callee (f := 24) rfl ?_); refine goesL_ (some 28) rfl rfl Try.func24 (by kernel_rfl) rfl #[.slice A0 l0.length c0] rfl (by (try simp only [List.map_toArray, List.map_cons, List.map_nil]); first | done | rfl | (simp only [List.length_drop, List.length_take]; rfl)) ?_; (with_reducible refine (matrix_Rank.calls k _ _ l0 t209 t210 _ ?side1 ?side2 A8.out).mono ?_); (case side1 => repeat (first | exact (Kd.C_below HR0.out HB.out) | (with_reducible refine Kd.C_alloc ?_ _) | (with_reducible refine Kd.C_drewN ?_ _) | (with_reducible refine Kd.C_drew ?_))); (case side2 => exact HC0.out); rintro e w54 ⟨rfl, hb⟩; refine ⟨_, rfl, ?_⟩; have n0_ := Aside0.mk (Kd.S_below (by (with_reducible repeat (first | apply Kd.S_alloc | apply Kd.S_drewN | apply Kd.S_drew)); exact HO208.out) hb); have n1_ := Aside0.mk (below_step (by repeat (first | (with_reducible first | exact HB.out | apply below_alloc | apply pw_below_drewN | apply below_drew1) | exact HB.out)) hb); clear HO208; clear HB; have HO208 := n0_; have HB := n1_; clear n0_ n1_; (try clear hb); (try clear hb2); (try clear hk); (try clear hi); obtain ⟨Ao55, co55, eo55⟩ := Kd.S_slice HO208.out; subst eo55))
            go_ret
            exact ⟨by first | rfl | (simp [errW_none, errW_some] <;> rfl) | (simp [*, errW_none, errW_some] <;> rfl), by repeat (first | (with_reducible first | exact HB.out | apply below_alloc | apply pw_below_drewN | apply below_drew1) | exact HB.out)⟩
          · rw [if_neg c51] at H
            exact absurd H (by simp)
        · rw [if_neg c50] at H
          exact absurd H (by simp)
  · replace c3 := Bool.eq_false_iff.mpr c3
    subst c3
    have H1 : (none) = some r := by rw [if_neg (show ¬ (false = true) by decide)] at H; exact H
    clear H
    have H := H1
    clear H1
    exact absurd H (by simp)

/-- THE ONE PURE STATEMENT of twoslotlaw03_MatrixInverse: yours. -/
def twoslotlaw03_MatrixInverse.Pure : Prop := ∀ (l0 : List (List Int)), (l0.length ≤ maxLen ∧ l0.length * 24 ≤ 140737488351232 ∧ ∀ y0 ∈ l0, (y0.length ≤ maxLen ∧ y0.length * 1 ≤ 140737488351232 ∧ ∀ y1 ∈ y0, (Lit.int .u8 y1).wf = true)) → ∃ k, twoslotlaw03_MatrixInverse.f k l0 = some true

end Go.Proofs.Ytmeckhfoajfapaa.PA
