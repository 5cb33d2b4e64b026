-- written by the session's own program (wip/prt.py) over the kit's print: not print.sh's own text
import Derived.Test.YtihefjdabjmmaaaPDx0
import Derived.Test.YtihefjdabjmmaaaPDx1
namespace Go.Proofs.Ytihefjdabjmmaaa.PD
open Go.RowKit Go.Proofs.YtihefjdabjmmaaaW.PrintWords Go.Proofs.YtihefjdabjmmaaaW.PrintLast Go.Proofs.YtihefjdabjmmaaaW.PrintMore
attribute [local go_sem] max2_int min2_int max_two min_two max_three min_three max_four min_four   -- for this text's walks alone
set_option linter.unusedVariables false
set_option linter.unusedSimpArgs false

/-! ### layout_Drives: function 29 -/
set_option maxHeartbeats 400000 in
theorem layout_Drives.of_ (k : Nat) (a0 a1 a2 a3 e : Int) (w : World) (h : layout_Check.f k a0 a1 a2 a3 = some e) :
    Calls Try.prog 45 #[.agg #[.int .i64 a0, .int .i64 a1, .int .i64 a2, .int .i64 a3], .func (.func 46) #[] #[]] w fun en w' => en = .returned (.tuple #[.int .i64 (if e = 0 then wrap64 (a0 + a1) else 0), .int .i64 e]) ∧ Below w.heap.size w w' := by
  have hup := Try.underlying23
  have H := Lib.hid h
  clear h
  by_cases he : e = 0
  · subst he
    go_enter Try.func45, Try.ntmps45
    go_wp2_with fail
    refine (layout_Check.calls k a0 a1 a2 a3 0 _ H.out).mono ?_
    rintro en w1 ⟨rfl, hb⟩
    obtain ⟨hB, hb2⟩ := h_new hb
    have c0 : w1.cell? ⟨w.heap.size, 0, none⟩ = some (.int .i64 a0) := (blk_cell hB 0).trans rfl
    have c1 : w1.cell? ⟨w.heap.size, 1, none⟩ = some (.int .i64 a1) := (blk_cell hB 1).trans rfl
    have c2 : w1.cell? ⟨w.heap.size, 2, none⟩ = some (.int .i64 a2) := (blk_cell hB 2).trans rfl
    have c3 : w1.cell? ⟨w.heap.size, 3, none⟩ = some (.int .i64 a3) := (blk_cell hB 3).trans rfl
    have HB := Lib.hid hb2
    clear hb hB hb2
    go_wp2_with fail
    refine (layout_drives.calls a0 a1 a2 a3 _ _ rfl).mono ?_
    rintro en w2 ⟨rfl, hb⟩
    have HB2 := Lib.hid (below_step HB.out hb)
    clear hb HB c0 c1 c2 c3
    go_wp2_with fail
    go_ret2
    exact ⟨rfl, HB2.out⟩
  · have he1 : (e == 0) = false := beq_eq_false_iff_ne.mpr he
    have he2 : (e != 0) = true := bne_iff_ne.mpr he
    rw [if_neg he]
    go_enter Try.func45, Try.ntmps45
    go_wp2_with fail
    refine (layout_Check.calls k a0 a1 a2 a3 e _ H.out).mono ?_
    rintro en w1 ⟨rfl, hb⟩
    obtain ⟨hB, hb2⟩ := h_new hb
    have HB := Lib.hid hb2
    clear hb hB hb2
    go_wp2_with fail
    go_ret2
    exact ⟨rfl, HB.out⟩
def layout_Drives.f (k : Nat) (a0_0 : Int) (a0_1 : Int) (a0_2 : Int) (a0_3 : Int) : Option (Int × Int) := (layout_Check.f k a0_0 a0_1 a0_2 a0_3).bind fun e => (some ((if e = 0 then wrap64 (a0_0 + a0_1) else 0), e))
theorem layout_Drives.mono : ∀ a0 a1 a2 a3 k, LeO (layout_Drives.f k a0 a1 a2 a3) (layout_Drives.f (k + 1) a0 a1 a2 a3) := by
  intro a0 a1 a2 a3 k
  exact LeO.bind (layout_Check.mono _ _ _ _ _) (fun _ => LeO.refl _)
set_option maxHeartbeats 400000 in
theorem layout_Drives.calls (k : Nat) (a0_0 : Int) (a0_1 : Int) (a0_2 : Int) (a0_3 : Int) (r1 : Int) (r2 : Int) (w : World) (h : layout_Drives.f k a0_0 a0_1 a0_2 a0_3 = some (r1, r2)) :
    Calls Try.prog 29 #[.agg #[.int .i64 a0_0, .int .i64 a0_1, .int .i64 a0_2, .int .i64 a0_3]] w fun e w' => e = .returned (.tuple #[.int .i64 r1, .int .i64 r2]) ∧ Below w.heap.size w w' := by
  have hup := Try.underlying23
  unfold layout_Drives.f at h
  obtain ⟨e, he, h⟩ := Option.bind_eq_some_iff.mp h
  injection h with h
  injection h with h1 h2
  subst h2
  have H := Lib.hid he
  clear he
  go_enter Try.func29, Try.ntmps29
  go_wp2_with fail
  refine (layout_Drives.of_ k _ _ _ _ _ _ H.out).mono ?_
  rintro en w1 ⟨hen, hb⟩
  rw [h1] at hen
  subst hen
  have HB := Lib.hid (h_new hb).2
  clear hb
  go_wp2_with fail
  go_ret2
  exact ⟨rfl, HB.out⟩

/-! ### slot_Size: function 12 -/
def slot_Size.f (k : Nat) (a0_0 : Int) (a0_1 : Int) (a0_2 : Int) (a0_3 : Int) : Option (Int × Int) := (layout_Drives.f k a0_0 a0_1 a0_2 a0_3).bind fun bt104 => (if bt104.2 = 0 then (some (wrap64 ((wrap64 (12 + (wrap64 (4 * bt104.1)))) + a0_2), 0)) else (some (0, bt104.2)))
theorem slot_Size.mono : ∀ a0 a1 a2 a3 k, LeO (slot_Size.f k a0 a1 a2 a3) (slot_Size.f (k + 1) a0 a1 a2 a3) := by
  intro a0 a1 a2 a3 k
  unfold slot_Size.f
  repeat' first
      | (with_reducible exact layout_Drives.mono _ _ _ _ _)
      | (with_reducible exact LeO.refl _)
      | (with_reducible exact LeO.none _)
      | (with_reducible refine LeO.ite ?_ ?_)
      | (with_reducible refine LeO.bind ?_ (fun _ => ?_))
      | exact layout_Drives.mono _ _ _ _ _
      | exact LeO.none _
      | refine LeO.ite ?_ ?_
      | refine LeO.bind ?_ (fun _ => ?_)
set_option maxHeartbeats 8000000 in
set_option maxRecDepth 100000 in
theorem slot_Size.calls (k : Nat) (a0_0 : Int) (a0_1 : Int) (a0_2 : Int) (a0_3 : Int) (r1 : Int) (r2 : Int) (w : World) (h : slot_Size.f k a0_0 a0_1 a0_2 a0_3 = some (r1, r2)) :
    Calls Try.prog 12 #[.agg #[.int .i64 a0_0, .int .i64 a0_1, .int .i64 a0_2, .int .i64 a0_3]] w fun e w' => e = .returned (.tuple #[.int .i64 r1, .int .i64 r2]) ∧ Below w.heap.size w w' := by
  have hu23 := Try.underlying23
  have HB := Aside0.mk (Below.refl w.heap.size w)
  have H : ((layout_Drives.f k a0_0 a0_1 a0_2 a0_3).bind fun bt104 => (if bt104.2 = 0 then (some (wrap64 ((wrap64 (12 + (wrap64 (4 * bt104.1)))) + a0_2), 0)) else (some (0, bt104.2)))) = some (r1, r2) := h
  clear h
  replace H := Option.bind_eq_some_iff.mp H
  obtain ⟨⟨t104, t105⟩, A20, H⟩ := H
  replace H : (if t105 = 0 then (some (wrap64 ((wrap64 (12 + (wrap64 (4 * t104)))) + a0_2), 0)) else (some (0, t105))) = some (r1, r2) := H
  have A2 := Aside0.mk A20
  clear A20
  by_cases c3 : t105 = 0
  · rw [if_pos c3] at H
    have c3b0 : (t105 == 0) = true := beq_iff_eq.mpr c3
    have c3b1 : (t105 != 0) = false := bne_eq_false_iff_eq.mpr c3
    clear c3
    simp only [Option.some.injEq, Prod.mk.injEq] at H
    obtain ⟨rfl, rfl⟩ := H
    go_enter Try.func12, Try.ntmps12
    go_wp2_with (first | ((with_reducible refine gate_dst (N := 1) rfl ?_); refine box_event ?hg (N := 1) ?hd (cs := #[.int .i64 a0_0, .int .i64 a0_1, .int .i64 a0_2, .int .i64 a0_3]) (t := 23) ?hr ?_; (case hd => rfl); (case hg => rfl); (case hr => first | (go_simp; done) | (go_simp; rfl)); intro gb103 hg w4 hbox hb; have n0_ := Aside0.mk (below_step (by repeat (first | (with_reducible first | exact HB.out | apply below_alloc | apply pw_below_drewN | apply below_drew1) | exact HB.out)) hb); have n1_ := Aside0.mk (hbox); have n2_ := Aside0.mk ((by rw [hg]; exact (below_size (by repeat (first | (with_reducible first | exact HB.out | apply below_alloc | apply pw_below_drewN | apply below_drew1) | exact HB.out))) : w.heap.size ≤ gb103)); have n3_ := Aside0.mk ((by rw [hg]; exact (below_size (by repeat (first | (with_reducible first | exact HB.out | apply below_alloc | apply pw_below_drewN | apply below_drew1) | exact HB.out))) : w.heap.size ≤ gb103)); clear HB; have HB := n0_; have BK103 := n1_; have GW103 := n2_; have GE103 := n3_; clear n0_ n1_ n2_ n3_; clear hb hbox hg; have hcz5_0 : w4.cell? ⟨gb103, 0, none⟩ = some (.int .i64 a0_0) := (blk_cell BK103.out 0).trans rfl; have hcz5_1 : w4.cell? ⟨gb103, 1, none⟩ = some (.int .i64 a0_1) := (blk_cell BK103.out 1).trans rfl; have hcz5_2 : w4.cell? ⟨gb103, 2, none⟩ = some (.int .i64 a0_2) := (blk_cell BK103.out 2).trans rfl; have hcz5_3 : w4.cell? ⟨gb103, 3, none⟩ = some (.int .i64 a0_3) := (blk_cell BK103.out 3).trans rfl; have hfz5_0 := blk_frozen BK103.out 0; have hfz5_1 := blk_frozen BK103.out 1; have hfz5_2 := blk_frozen BK103.out 2; have hfz5_3 := blk_frozen BK103.out 3) | ((with_reducible refine gate_callee (f := 29) rfl ?_); refine goesL_ (some 8) rfl rfl Try.func29 (by kernel_rfl) rfl #[.agg #[.int .i64 a0_0, .int .i64 a0_1, .int .i64 a0_2, .int .i64 a0_3]] rfl (by (try simp only [List.map_toArray, List.map_cons, List.map_nil]); first | done | rfl | (simp only [List.length_drop, List.length_take]; rfl)) ?_; (with_reducible refine (layout_Drives.calls k a0_0 a0_1 a0_2 a0_3 t104 t105 _ A2.out).mono ?_); rintro e w6 ⟨rfl, hb⟩; refine ⟨_, rfl, ?_⟩; have n0_ := Aside0.mk (blk_below (g := gb103) (o := .cells #[.int .i64 a0_0, .int .i64 a0_1, .int .i64 a0_2, .int .i64 a0_3] 23 (0, 0)) (by (with_reducible repeat (first | refine blk_drewN ?_ _ | refine blk_drew ?_ | refine blk_alloc ?_ _)); exact BK103.out) hb); have n1_ := Aside0.mk (below_step (by repeat (first | (with_reducible first | exact HB.out | apply below_alloc | apply pw_below_drewN | apply below_drew1 | refine below_set ?_ GE103.out) | exact HB.out)) hb); clear BK103; clear HB; have BK103 := n0_; have HB := n1_; clear n0_ n1_; (try clear hb); (try clear hb2); (try clear hk); (try clear hi); have hcz7_0 : w6.cell? ⟨gb103, 0, none⟩ = some (.int .i64 a0_0) := (blk_cell BK103.out 0).trans rfl; have hcz7_1 : w6.cell? ⟨gb103, 1, none⟩ = some (.int .i64 a0_1) := (blk_cell BK103.out 1).trans rfl; have hcz7_2 : w6.cell? ⟨gb103, 2, none⟩ = some (.int .i64 a0_2) := (blk_cell BK103.out 2).trans rfl; have hcz7_3 : w6.cell? ⟨gb103, 3, none⟩ = some (.int .i64 a0_3) := (blk_cell BK103.out 3).trans rfl; have hfz7_0 := blk_frozen BK103.out 0; have hfz7_1 := blk_frozen BK103.out 1; have hfz7_2 := blk_frozen BK103.out 2; have hfz7_3 := blk_frozen BK103.out 3))
    go_ret2
    exact ⟨by first | rfl | (simp [errW_none, errW_some] <;> rfl) | (simp [*, errW_none, errW_some] <;> rfl), by repeat (first | (with_reducible first | exact HB.out | apply below_alloc | apply pw_below_drewN | apply below_drew1 | refine below_set ?_ GE103.out) | exact HB.out)⟩
  · rw [if_neg c3] at H
    have c3b0 : (t105 == 0) = false := beq_eq_false_iff_ne.mpr c3
    have c3b1 : (t105 != 0) = true := bne_iff_ne.mpr c3
    simp only [Option.some.injEq, Prod.mk.injEq] at H
    obtain ⟨rfl, rfl⟩ := H
    go_enter Try.func12, Try.ntmps12
    go_wp2_with (first | ((with_reducible refine gate_dst (N := 1) rfl ?_); refine box_event ?hg (N := 1) ?hd (cs := #[.int .i64 a0_0, .int .i64 a0_1, .int .i64 a0_2, .int .i64 a0_3]) (t := 23) ?hr ?_; (case hd => rfl); (case hg => rfl); (case hr => first | (go_simp; done) | (go_simp; rfl)); intro gb103 hg w8 hbox hb; have n0_ := Aside0.mk (below_step (by repeat (first | (with_reducible first | exact HB.out | apply below_alloc | apply pw_below_drewN | apply below_drew1) | exact HB.out)) hb); have n1_ := Aside0.mk (hbox); have n2_ := Aside0.mk ((by rw [hg]; exact (below_size (by repeat (first | (with_reducible first | exact HB.out | apply below_alloc | apply pw_below_drewN | apply below_drew1) | exact HB.out))) : w.heap.size ≤ gb103)); have n3_ := Aside0.mk ((by rw [hg]; exact (below_size (by repeat (first | (with_reducible first | exact HB.out | apply below_alloc | apply pw_below_drewN | apply below_drew1) | exact HB.out))) : w.heap.size ≤ gb103)); clear HB; have HB := n0_; have BK103 := n1_; have GW103 := n2_; have GE103 := n3_; clear n0_ n1_ n2_ n3_; clear hb hbox hg; have hcz9_0 : w8.cell? ⟨gb103, 0, none⟩ = some (.int .i64 a0_0) := (blk_cell BK103.out 0).trans rfl; have hcz9_1 : w8.cell? ⟨gb103, 1, none⟩ = some (.int .i64 a0_1) := (blk_cell BK103.out 1).trans rfl; have hcz9_2 : w8.cell? ⟨gb103, 2, none⟩ = some (.int .i64 a0_2) := (blk_cell BK103.out 2).trans rfl; have hcz9_3 : w8.cell? ⟨gb103, 3, none⟩ = some (.int .i64 a0_3) := (blk_cell BK103.out 3).trans rfl; have hfz9_0 := blk_frozen BK103.out 0; have hfz9_1 := blk_frozen BK103.out 1; have hfz9_2 := blk_frozen BK103.out 2; have hfz9_3 := blk_frozen BK103.out 3) | ((with_reducible refine gate_callee (f := 29) rfl ?_); refine goesL_ (some 8) rfl rfl Try.func29 (by kernel_rfl) rfl #[.agg #[.int .i64 a0_0, .int .i64 a0_1, .int .i64 a0_2, .int .i64 a0_3]] rfl (by (try simp only [List.map_toArray, List.map_cons, List.map_nil]); first | done | rfl | (simp only [List.length_drop, List.length_take]; rfl)) ?_; (with_reducible refine (layout_Drives.calls k a0_0 a0_1 a0_2 a0_3 t104 t105 _ A2.out).mono ?_); rintro e w10 ⟨rfl, hb⟩; refine ⟨_, rfl, ?_⟩; have n0_ := Aside0.mk (blk_below (g := gb103) (o := .cells #[.int .i64 a0_0, .int .i64 a0_1, .int .i64 a0_2, .int .i64 a0_3] 23 (0, 0)) (by (with_reducible repeat (first | refine blk_drewN ?_ _ | refine blk_drew ?_ | refine blk_alloc ?_ _)); exact BK103.out) hb); have n1_ := Aside0.mk (below_step (by repeat (first | (with_reducible first | exact HB.out | apply below_alloc | apply pw_below_drewN | apply below_drew1 | refine below_set ?_ GE103.out) | exact HB.out)) hb); clear BK103; clear HB; have BK103 := n0_; have HB := n1_; clear n0_ n1_; (try clear hb); (try clear hb2); (try clear hk); (try clear hi)))
    go_ret2
    exact ⟨by first | rfl | (simp [errW_none, errW_some] <;> rfl) | (simp [*, errW_none, errW_some] <;> rfl), by repeat (first | (with_reducible first | exact HB.out | apply below_alloc | apply pw_below_drewN | apply below_drew1 | refine below_set ?_ GE103.out) | exact HB.out)⟩

/-! ### twoslotlaw10_awake: function 10 -/
def twoslotlaw10_awake.f (k : Nat)  : Option (Bool) := (slot_Size.f k 2 1 16 8).bind fun bt106 => (if bt106.2 = 0 then (some (bt106.1 == 40)) else (none))
theorem twoslotlaw10_awake.mono : ∀ k, LeO (twoslotlaw10_awake.f k ) (twoslotlaw10_awake.f (k + 1) ) := by
  intro  k
  unfold twoslotlaw10_awake.f
  repeat' first
      | (with_reducible exact slot_Size.mono _ _ _ _ _)
      | (with_reducible exact LeO.refl _)
      | (with_reducible exact LeO.none _)
      | (with_reducible refine LeO.ite ?_ ?_)
      | (with_reducible refine LeO.bind ?_ (fun _ => ?_))
      | exact slot_Size.mono _ _ _ _ _
      | exact LeO.none _
      | refine LeO.ite ?_ ?_
      | refine LeO.bind ?_ (fun _ => ?_)
set_option maxHeartbeats 8000000 in
set_option maxRecDepth 100000 in
theorem twoslotlaw10_awake.calls (k : Nat)  (r : Bool) (w : World) (h : twoslotlaw10_awake.f k  = some r) :
    Calls Try.prog 10 #[] w fun e w' => e = .returned (.bool r) ∧ Below w.heap.size w w' := by
  have hu23 := Try.underlying23
  have HB := Aside0.mk (Below.refl w.heap.size w)
  have H : ((slot_Size.f k 2 1 16 8).bind fun bt106 => (if bt106.2 = 0 then (some (bt106.1 == 40)) else (none))) = some r := h
  clear h
  replace H := Option.bind_eq_some_iff.mp H
  obtain ⟨⟨t106, t107⟩, A10, H⟩ := H
  replace H : (if t107 = 0 then (some (t106 == 40)) else (none)) = some r := H
  have A1 := Aside0.mk A10
  clear A10
  by_cases c2 : t107 = 0
  · rw [if_pos c2] at H
    have c2b0 : (t107 == 0) = true := beq_iff_eq.mpr c2
    have c2b1 : (t107 != 0) = false := bne_eq_false_iff_eq.mpr c2
    clear c2
    obtain rfl := Option.some.inj H
    go_enter Try.func10, Try.ntmps10
    go_wp2_with (first | ((with_reducible refine gate_callee (f := 12) rfl ?_); refine goesL_ (some 5) rfl rfl Try.func12 (by kernel_rfl) rfl #[.agg #[.int .i64 2, .int .i64 1, .int .i64 16, .int .i64 8]] rfl (by (try simp only [List.map_toArray, List.map_cons, List.map_nil]); first | done | rfl | (simp only [List.length_drop, List.length_take]; rfl)) ?_; (with_reducible refine (slot_Size.calls k 2 1 16 8 t106 t107 _ A1.out).mono ?_); rintro e w3 ⟨rfl, hb⟩; refine ⟨_, rfl, ?_⟩; have n0_ := Aside0.mk (below_step (by repeat (first | (with_reducible first | exact HB.out | apply below_alloc | apply pw_below_drewN | apply below_drew1) | exact HB.out)) hb); clear HB; have HB := n0_; clear n0_; (try clear hb); (try clear hb2); (try clear hk); (try clear hi)))
    go_ret
    exact ⟨by first | rfl | (simp [errW_none, errW_some] <;> rfl) | (simp [*, errW_none, errW_some] <;> rfl), by repeat (first | (with_reducible first | exact HB.out | apply below_alloc | apply pw_below_drewN | apply below_drew1) | exact HB.out)⟩
  · rw [if_neg c2] at H
    exact absurd H (by simp)

-- NOT PRINTED: function 58 (slices_IndexFunc_int_int)

-- NOT PRINTED: function 55 (slices_ContainsFunc_int_int)

/-! ### vector_Check: function 54 -/
theorem vector_Check.check1_calls (x : Int) (w : World) : Calls Try.prog 56 #[.int .i64 x] w fun e w' => e = .returned (.bool (hBad x)) ∧ Drawn0 w w' := by
  obtain ⟨r, hr⟩ : ∃ r, vector_version.f x = some r := by unfold vector_version.f; split <;> exact ⟨_, rfl⟩
  have e : hBad x = !r := by
    unfold vector_version.f at hr
    unfold hBad
    split at hr
    · injection hr with hr; subst hr; rename_i h; simp [show (1 : Int) ≤ x from h]
    · injection hr with hr; subst hr; rename_i h; simp [show ¬ (1 : Int) ≤ x from h]
  rw [e]
  have H := Lib.hid hr
  clear hr e
  go_enter Try.func56, Try.ntmps56
  go_wp2_with fail
  refine (vector_version.calls x r _ H.out).mono ?_
  rintro en w1 ⟨rfl, ⟨nd, rfl⟩⟩
  go_wp2_with fail
  go_ret
  exact ⟨rfl, by repeat (first | exact Drawn0.refl _ | apply Drawn0.step)⟩
set_option maxHeartbeats 400000 in
theorem vector_Check.index_calls (A : Option Addr) (c : Nat) (l : List Int) (w : World) (hr : Kd.C (Kd.int .i64) w A l.length l) (hc : l.length ≤ c) :
    Calls Try.prog 58 #[.slice A l.length c, .func (.func 56) #[] #[]] w fun e w' => e = .returned (.int .i64 (hIdx hBad l 0)) ∧ Drawn0 w w' := by
  have hl : l.length ≤ 9223372036854775807 := hr.2.1
  have HR := Lib.hid hr
  clear hr
  go_enter Try.func58, Try.ntmps58
  go_wp2_with fail
  go_loopg [5, 8] l.length (fun g s5 s8 wx => ∃ n : Nat, n + g = l.length ∧ s8 = .int .i64 n ∧ Drawn0 w wx ∧ Aside0 (hIdx hBad l 0 = hIdx hBad (l.drop n) n))
  case atStart => exact ⟨0, by omega, rfl, Drawn0.refl _, ⟨rfl⟩⟩
  case round =>
    obtain ⟨n, hng, rfl, ⟨m, rfl⟩, HI⟩ := hrel
    cases gk with
    | zero =>
      obtain rfl : n = l.length := by omega
      go_wp2_with fail
      go_ret
      exact ⟨by rw [HI.out, List.drop_length]; rfl, by repeat (first | exact Drawn0.refl _ | apply Drawn0.step)⟩
    | succ g =>
      have hn : n < l.length := by omega
      obtain ⟨ad, e1, hx⟩ := Kd.at_int HR.out (n : Int) (by omega) (by omega)
      rw [Int.toNat_natCast] at hx
      cases e1
      have hd := hIdx_drop (p := hBad) hn
      obtain ⟨b, hb⟩ : ∃ b, hBad (rd l n) = b := ⟨_, rfl⟩
      rw [hb] at hd
      have HD := Lib.hid hd
      have HB := Lib.hid hb
      clear hd hb
      go_wp2_with fail
      refine (vector_Check.check1_calls _ _).mono ?_
      rw [HB.out]
      rintro en w1 ⟨rfl, ⟨nd, rfl⟩⟩
      cases b with
      | true =>
        go_wp2_with fail
        go_ret
        exact ⟨by rw [HI.out, HD.out]; rfl, by repeat (first | exact Drawn0.refl _ | apply Drawn0.step)⟩
      | false =>
        go_wp2_with fail
        go_roundg g
        case measure => omega
        case rel => exact ⟨n + 1, by omega, by go_num, by repeat (first | exact Drawn0.refl _ | apply Drawn0.step), ⟨by rw [HI.out, HD.out]; rfl⟩⟩
set_option maxHeartbeats 400000 in
theorem vector_Check.contains_calls (A : Option Addr) (c : Nat) (l : List Int) (w : World) (hr : Kd.C (Kd.int .i64) w A l.length l) (hc : l.length ≤ c) :
    Calls Try.prog 55 #[.slice A l.length c, .func (.func 56) #[] #[]] w fun e w' => e = .returned (.bool (l.any hBad)) ∧ Drawn0 w w' := by
  have HR := Lib.hid hr
  have HA := Lib.hid (hIdx_any hBad l 0 (by omega))
  clear hr
  go_enter Try.func55, Try.ntmps55
  go_wp2_with fail
  refine (vector_Check.index_calls A c l _ HR.out hc).mono ?_
  rintro en w1 ⟨rfl, ⟨nd, rfl⟩⟩
  go_wp2_with fail
  go_ret
  exact ⟨by rw [← HA.out]; rfl, by repeat (first | exact Drawn0.refl _ | apply Drawn0.step)⟩
def vector_Check.f (k : Nat) (a0_0 : Int) (a0_1 : Int) (a0_2 : Int) (a0_3 : Int) (l1 : List Int) : Option (Int) := (layout_Drives.f k a0_0 a0_1 a0_2 a0_3).bind fun b => (some (if b.2 = 0 then (if (l1.length : Int) = b.1 then (if l1.any hBad = true then 70 else 0) else 70) else b.2))
theorem vector_Check.mono : ∀ a0 a1 a2 a3 a4 k, LeO (vector_Check.f k a0 a1 a2 a3 a4) (vector_Check.f (k + 1) a0 a1 a2 a3 a4) := by
  intro a0 a1 a2 a3 a4 k
  exact LeO.bind (layout_Drives.mono _ _ _ _ _) (fun _ => LeO.refl _)
set_option maxHeartbeats 400000 in
theorem vector_Check.calls (k : Nat) (a0_0 : Int) (a0_1 : Int) (a0_2 : Int) (a0_3 : Int) (A1 : Option Addr) (c1 : Nat) (l1 : List Int) (r : Int) (w : World) (hr1 : Kd.C (Kd.int .i64) w A1 l1.length l1) (hc1 : l1.length ≤ c1) (h : vector_Check.f k a0_0 a0_1 a0_2 a0_3 l1 = some r) :
    Calls Try.prog 54 #[.agg #[.int .i64 a0_0, .int .i64 a0_1, .int .i64 a0_2, .int .i64 a0_3], .slice A1 l1.length c1] w fun e w' => e = .returned (.int .i64 r) ∧ Below w.heap.size w w' := by
  have hup := Try.underlying23
  unfold vector_Check.f at h
  obtain ⟨⟨n, e⟩, he, h⟩ := Option.bind_eq_some_iff.mp h
  injection h with h
  simp only at h
  have H := Lib.hid he
  have HR := Lib.hid hr1
  clear he hr1
  by_cases c2 : e = 0
  · subst c2
    rw [if_pos rfl] at h
    by_cases c3 : (l1.length : Int) = n
    · rw [if_pos c3] at h
      have c3a : ((l1.length : Int) != n) = false := bne_eq_false_iff_eq.mpr c3
      obtain ⟨b, hb⟩ : ∃ b, l1.any hBad = b := ⟨_, rfl⟩
      rw [hb] at h
      have HB := Lib.hid hb
      clear hb c3
      go_enter Try.func54, Try.ntmps54
      go_wp2_with fail
      refine (layout_Drives.calls k _ _ _ _ _ _ _ H.out).mono ?_
      rintro en w1 ⟨rfl, hb⟩
      have HBl := Lib.hid (h_new hb).2
      clear hb
      go_wp2_with fail
      refine (vector_Check.contains_calls A1 c1 l1 _ (Kd.C_below HR.out HBl.out) hc1).mono ?_
      rw [HB.out]
      rintro en w2 ⟨rfl, ⟨nd, rfl⟩⟩
      cases b with
      | true =>
        rw [if_pos rfl] at h
        subst h
        go_wp2_with fail
        go_ret
        exact ⟨rfl, pw_below_drewN HBl.out _⟩
      | false =>
        rw [if_neg (by decide)] at h
        subst h
        go_wp2_with fail
        go_ret
        exact ⟨rfl, pw_below_drewN HBl.out _⟩
    · rw [if_neg c3] at h
      subst h
      have c3a : ((l1.length : Int) != n) = true := bne_iff_ne.mpr c3
      clear c3
      go_enter Try.func54, Try.ntmps54
      go_wp2_with fail
      refine (layout_Drives.calls k _ _ _ _ _ _ _ H.out).mono ?_
      rintro en w1 ⟨rfl, hb⟩
      have HBl := Lib.hid (h_new hb).2
      clear hb
      go_wp2_with fail
      go_ret
      exact ⟨rfl, HBl.out⟩
  · rw [if_neg c2] at h
    subst h
    have c2a : (e == 0) = false := beq_eq_false_iff_ne.mpr c2
    have c2b : (e != 0) = true := bne_iff_ne.mpr c2
    clear c2
    go_enter Try.func54, Try.ntmps54
    go_wp2_with fail
    refine (layout_Drives.calls k _ _ _ _ _ _ _ H.out).mono ?_
    rintro en w1 ⟨rfl, hb⟩
    have HBl := Lib.hid (h_new hb).2
    clear hb
    go_wp2_with fail
    go_ret
    exact ⟨rfl, HBl.out⟩

end Go.Proofs.Ytihefjdabjmmaaa.PD
