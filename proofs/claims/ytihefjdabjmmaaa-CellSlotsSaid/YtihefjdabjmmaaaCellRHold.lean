/- What twoslotref11.Holds does. No condition. -/
import Derived.Test.YtihefjdabjmmaaaCellROf
import Derived.Test.YtihefjdabjmmaaaCellRAsk
namespace Go.Proofs.Ytihefjdabjmmaaa.PD
open Go Go.RowKit Go.Proofs.YtihefjdabjmmaaaW.PrintWords Go.Proofs.YtihefjdabjmmaaaW.PrintLast Go.Proofs.YtihefjdabjmmaaaW.PrintMore
set_option linter.unusedVariables false
set_option maxHeartbeats 4000000 in
set_option maxRecDepth 100000 in
theorem rHolds.calls (k : Nat) (a0 a1 a2 a3 : Int) (A0 : Option Addr) (c0 : Nat) (l0 : List Int) (A1 : Option Addr) (c1 : Nat) (l1 : List Int) (kind index version : Int)
    (r1 r2 r3 r4 : Int) (r5 r6 : List Int) (r7 : Bool) (o1 o2 o3 o4 : Int) (o5 o6 : List Int) (o7 : Bool) (s1 s2 s3 s4 : Int) (s5 s6 : List Int) (s7 : Bool) (q1 q2 q3 q4 : Int) (q5 q6 : List Int) (q7 : Bool) (w : World)
    (hr0 : Kd.C (Kd.int .u8) w A0 l0.length l0) (hc0 : l0.length ≤ c0) (hr1 : Kd.C (Kd.int .u8) w A1 l1.length l1) (hc1 : l1.length ≤ c1)
    (hd0 : twoslotref10_Read.f k a0 a1 a2 a3 l0 = some (r1, r2, r3, r4, r5, r6, r7)) (h0 : rOf.of r1 r2 r3 r4 r5 r6 r7 index = (o1, o2, o3, o4, o5, o6, o7))
    (hd1 : twoslotref10_Read.f k a0 a1 a2 a3 l1 = some (s1, s2, s3, s4, s5, s6, s7)) (h1 : rOf.of s1 s2 s3 s4 s5 s6 s7 index = (q1, q2, q3, q4, q5, q6, q7)) :
    Calls Try.prog 42 #[.agg #[.int .i64 a0, .int .i64 a1, .int .i64 a2, .int .i64 a3], .agg #[.slice A0 l0.length c0, .slice A1 l1.length c1], .int .u8 kind, .int .i64 index, .int .i64 version] w fun en w' =>
      en = .returned (.int .i64 (held_at.f o1 o3 o7 q1 q3 q7 kind version)) ∧ Below w.heap.size w w' := by
  have hu23 := Try.underlying23
  have hu27 := Try.underlying27
  have hu42 := Try.underlying42
  have HB := Lib.hid (Below.refl w.heap.size w)
  have HR0 := Lib.hid hr0
  have HC0 := Lib.hid hc0
  have HR1 := Lib.hid hr1
  have HC1 := Lib.hid hc1
  have HD0 := Lib.hid hd0
  have HD1 := Lib.hid hd1
  have HO0 := Lib.hid h0
  have HO1 := Lib.hid h1
  clear hr0 hr1 hc0 hc1 hd0 hd1 h0 h1
  go_enter Try.func42, Try.ntmps42
  go_upto_region 1 with (first | ((with_reducible refine gate_dst (N := 5) rfl ?_); refine box_event ?hg (N := 5) ?hd (cs := #[.int .i64 a0, .int .i64 a1, .int .i64 a2, .int .i64 a3]) (t := 23) ?hr ?_; (case hd => rfl); (case hg => rfl); (case hr => first | (go_simp; done) | (go_simp; rfl)); intro gb5 hg_ w1 bk_ hb_; have GE5 := Lib.hid (show w.heap.size ≤ gb5 by rw [hg_]; exact below_size HB.out); have BK5 := Lib.hid bk_; replace HB := Lib.hid (below_step HB.out hb_); clear hb_ hg_ bk_) | ((with_reducible refine gate_dst (N := 6) rfl ?_); refine box_event ?hg (N := 6) ?hd (cs := #[.slice A0 l0.length c0, .slice A1 l1.length c1]) (t := 42) ?hr ?_; (case hd => rfl); (case hg => rfl); (case hr => first | (go_simp; done) | (go_simp; rfl)); intro gb6 hg_ w2 bk_ hb_; have GE6 := Lib.hid (show w.heap.size ≤ gb6 by rw [hg_]; exact below_size HB.out); have NB5_6 := Lib.hid (show gb5 ≠ gb6 by rw [hg_]; exact Nat.ne_of_lt (blk_lt BK5.out)); have NB6_5 := Lib.hid NB5_6.out.symm; replace BK5 := Lib.hid (blk_below BK5.out hb_); have BK6 := Lib.hid bk_; replace HB := Lib.hid (below_step HB.out hb_); clear hb_ hg_ bk_))
  have hi0 := tw_ia0 gb6
  have hi1 := tw_ia1 gb6
  go_wp2_with fail
  refine wp_loop_rounds 3 ?_
  rw [rounds_succ]
  go_wp2_with fail
  go_region_held3 (fun w' => w'.cell? ⟨gb6, 0, none⟩ = some (.slice A0 l0.length c0) ∧ w'.cell? ⟨gb5, 0, none⟩ = some (.int .i64 a0) ∧ w'.cell? ⟨gb5, 1, none⟩ = some (.int .i64 a1) ∧ w'.cell? ⟨gb5, 2, none⟩ = some (.int .i64 a2) ∧ w'.cell? ⟨gb5, 3, none⟩ = some (.int .i64 a3)) (first | (with_reducible exact ⟨(blk_cell (blk_drew BK6.out) 0).trans rfl, (blk_cell (blk_drew BK5.out) 0).trans rfl, (blk_cell (blk_drew BK5.out) 1).trans rfl, (blk_cell (blk_drew BK5.out) 2).trans rfl, (blk_cell (blk_drew BK5.out) 3).trans rfl⟩) | (with_reducible exact ⟨(blk_cell (blk_drew (blk_below BK6.out (below_alloc (Below.refl _ _) _))) 0).trans rfl, (blk_cell (blk_drew (blk_below BK5.out (below_alloc (Below.refl _ _) _))) 0).trans rfl, (blk_cell (blk_drew (blk_below BK5.out (below_alloc (Below.refl _ _) _))) 1).trans rfl, (blk_cell (blk_drew (blk_below BK5.out (below_alloc (Below.refl _ _) _))) 2).trans rfl, (blk_cell (blk_drew (blk_below BK5.out (below_alloc (Below.refl _ _) _))) 3).trans rfl⟩) | (with_reducible exact ⟨(blk_cell (blk_below (blk_drew BK6.out) hb) 0).trans rfl, (blk_cell (blk_below (blk_drew BK5.out) hb) 0).trans rfl, (blk_cell (blk_below (blk_drew BK5.out) hb) 1).trans rfl, (blk_cell (blk_below (blk_drew BK5.out) hb) 2).trans rfl, (blk_cell (blk_below (blk_drew BK5.out) hb) 3).trans rfl⟩) | (with_reducible exact ⟨(blk_cell (blk_below (blk_drew (blk_below BK6.out (below_alloc (Below.refl _ _) _))) hb) 0).trans rfl, (blk_cell (blk_below (blk_drew (blk_below BK5.out (below_alloc (Below.refl _ _) _))) hb) 0).trans rfl, (blk_cell (blk_below (blk_drew (blk_below BK5.out (below_alloc (Below.refl _ _) _))) hb) 1).trans rfl, (blk_cell (blk_below (blk_drew (blk_below BK5.out (below_alloc (Below.refl _ _) _))) hb) 2).trans rfl, (blk_cell (blk_below (blk_drew (blk_below BK5.out (below_alloc (Below.refl _ _) _))) hb) 3).trans rfl⟩) | (with_reducible exact ⟨(blk_cell (blk_below (blk_below (blk_drew BK6.out) hb) (below_alloc (Below.refl _ _) _)) 0).trans rfl, (blk_cell (blk_below (blk_below (blk_drew BK5.out) hb) (below_alloc (Below.refl _ _) _)) 0).trans rfl, (blk_cell (blk_below (blk_below (blk_drew BK5.out) hb) (below_alloc (Below.refl _ _) _)) 1).trans rfl, (blk_cell (blk_below (blk_below (blk_drew BK5.out) hb) (below_alloc (Below.refl _ _) _)) 2).trans rfl, (blk_cell (blk_below (blk_below (blk_drew BK5.out) hb) (below_alloc (Below.refl _ _) _)) 3).trans rfl⟩) | (with_reducible exact ⟨(blk_cell (blk_far (p := ⟨w2.heap.size, 5, none⟩) (blk_far (p := ⟨w2.heap.size, 4, none⟩) (blk_far (p := ⟨w2.heap.size, 3, none⟩) (blk_far (p := ⟨w2.heap.size, 2, none⟩) (blk_far (p := ⟨w2.heap.size, 1, none⟩) (blk_far (p := ⟨w2.heap.size, 0, none⟩) (blk_below (blk_drew (blk_below BK6.out (below_alloc (Below.refl _ _) _))) hb) (Nat.ne_of_lt (blk_lt BK6.out)) (.int .u8 o1)) (Nat.ne_of_lt (blk_lt BK6.out)) (.int .i64 o2)) (Nat.ne_of_lt (blk_lt BK6.out)) (.int .i64 o3)) (Nat.ne_of_lt (blk_lt BK6.out)) (.int .i64 o4)) (Nat.ne_of_lt (blk_lt BK6.out)) (.slice X4 o5.length x4)) (Nat.ne_of_lt (blk_lt BK6.out)) (.slice X5 o6.length x5)) 0).trans rfl, (blk_cell (blk_far (p := ⟨w2.heap.size, 5, none⟩) (blk_far (p := ⟨w2.heap.size, 4, none⟩) (blk_far (p := ⟨w2.heap.size, 3, none⟩) (blk_far (p := ⟨w2.heap.size, 2, none⟩) (blk_far (p := ⟨w2.heap.size, 1, none⟩) (blk_far (p := ⟨w2.heap.size, 0, none⟩) (blk_below (blk_drew (blk_below BK5.out (below_alloc (Below.refl _ _) _))) hb) (Nat.ne_of_lt (blk_lt BK5.out)) (.int .u8 o1)) (Nat.ne_of_lt (blk_lt BK5.out)) (.int .i64 o2)) (Nat.ne_of_lt (blk_lt BK5.out)) (.int .i64 o3)) (Nat.ne_of_lt (blk_lt BK5.out)) (.int .i64 o4)) (Nat.ne_of_lt (blk_lt BK5.out)) (.slice X4 o5.length x4)) (Nat.ne_of_lt (blk_lt BK5.out)) (.slice X5 o6.length x5)) 0).trans rfl, (blk_cell (blk_far (p := ⟨w2.heap.size, 5, none⟩) (blk_far (p := ⟨w2.heap.size, 4, none⟩) (blk_far (p := ⟨w2.heap.size, 3, none⟩) (blk_far (p := ⟨w2.heap.size, 2, none⟩) (blk_far (p := ⟨w2.heap.size, 1, none⟩) (blk_far (p := ⟨w2.heap.size, 0, none⟩) (blk_below (blk_drew (blk_below BK5.out (below_alloc (Below.refl _ _) _))) hb) (Nat.ne_of_lt (blk_lt BK5.out)) (.int .u8 o1)) (Nat.ne_of_lt (blk_lt BK5.out)) (.int .i64 o2)) (Nat.ne_of_lt (blk_lt BK5.out)) (.int .i64 o3)) (Nat.ne_of_lt (blk_lt BK5.out)) (.int .i64 o4)) (Nat.ne_of_lt (blk_lt BK5.out)) (.slice X4 o5.length x4)) (Nat.ne_of_lt (blk_lt BK5.out)) (.slice X5 o6.length x5)) 1).trans rfl, (blk_cell (blk_far (p := ⟨w2.heap.size, 5, none⟩) (blk_far (p := ⟨w2.heap.size, 4, none⟩) (blk_far (p := ⟨w2.heap.size, 3, none⟩) (blk_far (p := ⟨w2.heap.size, 2, none⟩) (blk_far (p := ⟨w2.heap.size, 1, none⟩) (blk_far (p := ⟨w2.heap.size, 0, none⟩) (blk_below (blk_drew (blk_below BK5.out (below_alloc (Below.refl _ _) _))) hb) (Nat.ne_of_lt (blk_lt BK5.out)) (.int .u8 o1)) (Nat.ne_of_lt (blk_lt BK5.out)) (.int .i64 o2)) (Nat.ne_of_lt (blk_lt BK5.out)) (.int .i64 o3)) (Nat.ne_of_lt (blk_lt BK5.out)) (.int .i64 o4)) (Nat.ne_of_lt (blk_lt BK5.out)) (.slice X4 o5.length x4)) (Nat.ne_of_lt (blk_lt BK5.out)) (.slice X5 o6.length x5)) 2).trans rfl, (blk_cell (blk_far (p := ⟨w2.heap.size, 5, none⟩) (blk_far (p := ⟨w2.heap.size, 4, none⟩) (blk_far (p := ⟨w2.heap.size, 3, none⟩) (blk_far (p := ⟨w2.heap.size, 2, none⟩) (blk_far (p := ⟨w2.heap.size, 1, none⟩) (blk_far (p := ⟨w2.heap.size, 0, none⟩) (blk_below (blk_drew (blk_below BK5.out (below_alloc (Below.refl _ _) _))) hb) (Nat.ne_of_lt (blk_lt BK5.out)) (.int .u8 o1)) (Nat.ne_of_lt (blk_lt BK5.out)) (.int .i64 o2)) (Nat.ne_of_lt (blk_lt BK5.out)) (.int .i64 o3)) (Nat.ne_of_lt (blk_lt BK5.out)) (.int .i64 o4)) (Nat.ne_of_lt (blk_lt BK5.out)) (.slice X4 o5.length x4)) (Nat.ne_of_lt (blk_lt BK5.out)) (.slice X5 o6.length x5)) 3).trans rfl⟩)) ((go_at_call 43; refine (rOf.calls k a0 a1 a2 a3 A0 c0 l0 index r1 r2 r3 r4 r5 r6 r7 o1 o2 o3 o4 o5 o6 o7 _ (by first | exact Kd.C_below HR0.out (below_drew1 HB.out) | exact Kd.C_below HR0.out (below_drew1 (below_alloc HB.out _))) HC0.out HD0.out HO0.out).mono ?_; rintro en w9 ⟨u4, u5, rfl, ho4, ho5, hb⟩; obtain ⟨X4, x4, rfl⟩ := Kd.R_slice ho4; obtain ⟨X5, x5, rfl⟩ := Kd.R_slice ho5; (try (have hnw : w9.heap[w2.heap.size]? = some (.cells #[.int .u8 0, .int .i64 0, .int .i64 0, .int .i64 0, .slice none 0 0, .slice none 0 0] 27 (0, 0)) := blk_below (blk_drew (blk_new _ _)) hb; obtain ⟨zc0, zc1, zc2, zc3, zc4, zc5, zf0, zf1, zf2, zf3, zf4, zf5⟩ := cs6 hnw))))
  ·
    clear ho4 ho5
    replace BK5 := Lib.hid (blk_below (blk_drew BK5.out) hb)
    replace BK6 := Lib.hid (blk_below (blk_drew BK6.out) hb)
    replace HB := Lib.hid (below_step (below_drew1 HB.out) hb)
    clear hb
    have GE120 := Lib.hid (show w.heap.size ≤ w9.heap.size from below_size HB.out)
    have NB5_120 := Lib.hid (show gb5 ≠ w9.heap.size from Nat.ne_of_lt (blk_lt BK5.out))
    have NB120_5 := Lib.hid NB5_120.out.symm
    have NB6_120 := Lib.hid (show gb6 ≠ w9.heap.size from Nat.ne_of_lt (blk_lt BK6.out))
    have NB120_6 := Lib.hid NB6_120.out.symm
    have hal_ := below_alloc (Below.refl w9.heap.size w9) (.cells #[.int .u8 o1, .int .i64 o2, .int .i64 o3, .int .i64 o4, .slice X4 o5.length x4, .slice X5 o6.length x5] 27 (0, 0))
    replace BK5 := Lib.hid (blk_below BK5.out hal_)
    replace BK6 := Lib.hid (blk_below BK6.out hal_)
    have BK120 := Lib.hid (blk_new w9 (.cells #[.int .u8 o1, .int .i64 o2, .int .i64 o3, .int .i64 o4, .slice X4 o5.length x4, .slice X5 o6.length x5] 27 (0, 0)))
    replace HB := Lib.hid (below_step HB.out hal_)
    clear hal_
    try clear hHeld_
    generalize w9.alloc (.cells #[.int .u8 o1, .int .i64 o2, .int .i64 o3, .int .i64 o4, .slice X4 o5.length x4, .slice X5 o6.length x5] 27 (0, 0)) = wn0 at BK120 BK5 BK6  HB ⊢
    generalize w9.heap.size = gb120 at BK120 GE120 NB5_120 NB120_5 NB6_120 NB120_6 ⊢
    obtain ⟨yc0, yc1, yc2, yc3, yc4, yc5, yf0, yf1, yf2, yf3, yf4, yf5⟩ := cs6 BK120.out
    by_cases hf0 : o7 = true
    case neg =>
      replace hf0 := Bool.eq_false_iff.mpr hf0
      subst hf0
      go_wp2_with fail
      clear yc0 yf0 yc1 yf1 yc2 yf2 yc3 yf3 yc4 yf4 yc5 yf5
      rw [rounds_succ]
      go_wp2_with fail
      go_region_held3 (fun w' => w'.cell? ⟨gb6, 1, none⟩ = some (.slice A1 l1.length c1) ∧ w'.cell? ⟨gb5, 0, none⟩ = some (.int .i64 a0) ∧ w'.cell? ⟨gb5, 1, none⟩ = some (.int .i64 a1) ∧ w'.cell? ⟨gb5, 2, none⟩ = some (.int .i64 a2) ∧ w'.cell? ⟨gb5, 3, none⟩ = some (.int .i64 a3)) (first | (with_reducible exact ⟨(blk_cell (blk_drew BK6.out) 1).trans rfl, (blk_cell (blk_drew BK5.out) 0).trans rfl, (blk_cell (blk_drew BK5.out) 1).trans rfl, (blk_cell (blk_drew BK5.out) 2).trans rfl, (blk_cell (blk_drew BK5.out) 3).trans rfl⟩) | (with_reducible exact ⟨(blk_cell (blk_drew (blk_below BK6.out (below_alloc (Below.refl _ _) _))) 1).trans rfl, (blk_cell (blk_drew (blk_below BK5.out (below_alloc (Below.refl _ _) _))) 0).trans rfl, (blk_cell (blk_drew (blk_below BK5.out (below_alloc (Below.refl _ _) _))) 1).trans rfl, (blk_cell (blk_drew (blk_below BK5.out (below_alloc (Below.refl _ _) _))) 2).trans rfl, (blk_cell (blk_drew (blk_below BK5.out (below_alloc (Below.refl _ _) _))) 3).trans rfl⟩) | (with_reducible exact ⟨(blk_cell (blk_below (blk_drew BK6.out) hb) 1).trans rfl, (blk_cell (blk_below (blk_drew BK5.out) hb) 0).trans rfl, (blk_cell (blk_below (blk_drew BK5.out) hb) 1).trans rfl, (blk_cell (blk_below (blk_drew BK5.out) hb) 2).trans rfl, (blk_cell (blk_below (blk_drew BK5.out) hb) 3).trans rfl⟩) | (with_reducible exact ⟨(blk_cell (blk_below (blk_drew (blk_below BK6.out (below_alloc (Below.refl _ _) _))) hb) 1).trans rfl, (blk_cell (blk_below (blk_drew (blk_below BK5.out (below_alloc (Below.refl _ _) _))) hb) 0).trans rfl, (blk_cell (blk_below (blk_drew (blk_below BK5.out (below_alloc (Below.refl _ _) _))) hb) 1).trans rfl, (blk_cell (blk_below (blk_drew (blk_below BK5.out (below_alloc (Below.refl _ _) _))) hb) 2).trans rfl, (blk_cell (blk_below (blk_drew (blk_below BK5.out (below_alloc (Below.refl _ _) _))) hb) 3).trans rfl⟩) | (with_reducible exact ⟨(blk_cell (blk_below (blk_below (blk_drew BK6.out) hb) (below_alloc (Below.refl _ _) _)) 1).trans rfl, (blk_cell (blk_below (blk_below (blk_drew BK5.out) hb) (below_alloc (Below.refl _ _) _)) 0).trans rfl, (blk_cell (blk_below (blk_below (blk_drew BK5.out) hb) (below_alloc (Below.refl _ _) _)) 1).trans rfl, (blk_cell (blk_below (blk_below (blk_drew BK5.out) hb) (below_alloc (Below.refl _ _) _)) 2).trans rfl, (blk_cell (blk_below (blk_below (blk_drew BK5.out) hb) (below_alloc (Below.refl _ _) _)) 3).trans rfl⟩) | (with_reducible exact ⟨(blk_cell (blk_far (p := ⟨wn0.heap.size, 5, none⟩) (blk_far (p := ⟨wn0.heap.size, 4, none⟩) (blk_far (p := ⟨wn0.heap.size, 3, none⟩) (blk_far (p := ⟨wn0.heap.size, 2, none⟩) (blk_far (p := ⟨wn0.heap.size, 1, none⟩) (blk_far (p := ⟨wn0.heap.size, 0, none⟩) (blk_below (blk_drew (blk_below BK6.out (below_alloc (Below.refl _ _) _))) hb) (Nat.ne_of_lt (blk_lt BK6.out)) (.int .u8 q1)) (Nat.ne_of_lt (blk_lt BK6.out)) (.int .i64 q2)) (Nat.ne_of_lt (blk_lt BK6.out)) (.int .i64 q3)) (Nat.ne_of_lt (blk_lt BK6.out)) (.int .i64 q4)) (Nat.ne_of_lt (blk_lt BK6.out)) (.slice Y4 q5.length y4)) (Nat.ne_of_lt (blk_lt BK6.out)) (.slice Y5 q6.length y5)) 1).trans rfl, (blk_cell (blk_far (p := ⟨wn0.heap.size, 5, none⟩) (blk_far (p := ⟨wn0.heap.size, 4, none⟩) (blk_far (p := ⟨wn0.heap.size, 3, none⟩) (blk_far (p := ⟨wn0.heap.size, 2, none⟩) (blk_far (p := ⟨wn0.heap.size, 1, none⟩) (blk_far (p := ⟨wn0.heap.size, 0, none⟩) (blk_below (blk_drew (blk_below BK5.out (below_alloc (Below.refl _ _) _))) hb) (Nat.ne_of_lt (blk_lt BK5.out)) (.int .u8 q1)) (Nat.ne_of_lt (blk_lt BK5.out)) (.int .i64 q2)) (Nat.ne_of_lt (blk_lt BK5.out)) (.int .i64 q3)) (Nat.ne_of_lt (blk_lt BK5.out)) (.int .i64 q4)) (Nat.ne_of_lt (blk_lt BK5.out)) (.slice Y4 q5.length y4)) (Nat.ne_of_lt (blk_lt BK5.out)) (.slice Y5 q6.length y5)) 0).trans rfl, (blk_cell (blk_far (p := ⟨wn0.heap.size, 5, none⟩) (blk_far (p := ⟨wn0.heap.size, 4, none⟩) (blk_far (p := ⟨wn0.heap.size, 3, none⟩) (blk_far (p := ⟨wn0.heap.size, 2, none⟩) (blk_far (p := ⟨wn0.heap.size, 1, none⟩) (blk_far (p := ⟨wn0.heap.size, 0, none⟩) (blk_below (blk_drew (blk_below BK5.out (below_alloc (Below.refl _ _) _))) hb) (Nat.ne_of_lt (blk_lt BK5.out)) (.int .u8 q1)) (Nat.ne_of_lt (blk_lt BK5.out)) (.int .i64 q2)) (Nat.ne_of_lt (blk_lt BK5.out)) (.int .i64 q3)) (Nat.ne_of_lt (blk_lt BK5.out)) (.int .i64 q4)) (Nat.ne_of_lt (blk_lt BK5.out)) (.slice Y4 q5.length y4)) (Nat.ne_of_lt (blk_lt BK5.out)) (.slice Y5 q6.length y5)) 1).trans rfl, (blk_cell (blk_far (p := ⟨wn0.heap.size, 5, none⟩) (blk_far (p := ⟨wn0.heap.size, 4, none⟩) (blk_far (p := ⟨wn0.heap.size, 3, none⟩) (blk_far (p := ⟨wn0.heap.size, 2, none⟩) (blk_far (p := ⟨wn0.heap.size, 1, none⟩) (blk_far (p := ⟨wn0.heap.size, 0, none⟩) (blk_below (blk_drew (blk_below BK5.out (below_alloc (Below.refl _ _) _))) hb) (Nat.ne_of_lt (blk_lt BK5.out)) (.int .u8 q1)) (Nat.ne_of_lt (blk_lt BK5.out)) (.int .i64 q2)) (Nat.ne_of_lt (blk_lt BK5.out)) (.int .i64 q3)) (Nat.ne_of_lt (blk_lt BK5.out)) (.int .i64 q4)) (Nat.ne_of_lt (blk_lt BK5.out)) (.slice Y4 q5.length y4)) (Nat.ne_of_lt (blk_lt BK5.out)) (.slice Y5 q6.length y5)) 2).trans rfl, (blk_cell (blk_far (p := ⟨wn0.heap.size, 5, none⟩) (blk_far (p := ⟨wn0.heap.size, 4, none⟩) (blk_far (p := ⟨wn0.heap.size, 3, none⟩) (blk_far (p := ⟨wn0.heap.size, 2, none⟩) (blk_far (p := ⟨wn0.heap.size, 1, none⟩) (blk_far (p := ⟨wn0.heap.size, 0, none⟩) (blk_below (blk_drew (blk_below BK5.out (below_alloc (Below.refl _ _) _))) hb) (Nat.ne_of_lt (blk_lt BK5.out)) (.int .u8 q1)) (Nat.ne_of_lt (blk_lt BK5.out)) (.int .i64 q2)) (Nat.ne_of_lt (blk_lt BK5.out)) (.int .i64 q3)) (Nat.ne_of_lt (blk_lt BK5.out)) (.int .i64 q4)) (Nat.ne_of_lt (blk_lt BK5.out)) (.slice Y4 q5.length y4)) (Nat.ne_of_lt (blk_lt BK5.out)) (.slice Y5 q6.length y5)) 3).trans rfl⟩)) ((go_at_call 43; refine (rOf.calls k a0 a1 a2 a3 A1 c1 l1 index s1 s2 s3 s4 s5 s6 s7 q1 q2 q3 q4 q5 q6 q7 _ (by first | exact Kd.C_below HR1.out (below_drew1 HB.out) | exact Kd.C_below HR1.out (below_drew1 (below_alloc HB.out _))) HC1.out HD1.out HO1.out).mono ?_; rintro en w9 ⟨u4, u5, rfl, ho4, ho5, hb⟩; obtain ⟨Y4, y4, rfl⟩ := Kd.R_slice ho4; obtain ⟨Y5, y5, rfl⟩ := Kd.R_slice ho5; (try (have hnw : w9.heap[wn0.heap.size]? = some (.cells #[.int .u8 0, .int .i64 0, .int .i64 0, .int .i64 0, .slice none 0 0, .slice none 0 0] 27 (0, 0)) := blk_below (blk_drew (blk_new _ _)) hb; obtain ⟨zc0, zc1, zc2, zc3, zc4, zc5, zf0, zf1, zf2, zf3, zf4, zf5⟩ := cs6 hnw))))
      ·
        clear ho4 ho5
        replace BK5 := Lib.hid (blk_below (blk_drew BK5.out) hb)
        replace BK6 := Lib.hid (blk_below (blk_drew BK6.out) hb)
        replace HB := Lib.hid (below_step (below_drew1 HB.out) hb)
        clear hb
        have GE121 := Lib.hid (show w.heap.size ≤ w9.heap.size from below_size HB.out)
        have NB5_121 := Lib.hid (show gb5 ≠ w9.heap.size from Nat.ne_of_lt (blk_lt BK5.out))
        have NB121_5 := Lib.hid NB5_121.out.symm
        have NB6_121 := Lib.hid (show gb6 ≠ w9.heap.size from Nat.ne_of_lt (blk_lt BK6.out))
        have NB121_6 := Lib.hid NB6_121.out.symm
        have hal_ := below_alloc (Below.refl w9.heap.size w9) (.cells #[.int .u8 q1, .int .i64 q2, .int .i64 q3, .int .i64 q4, .slice Y4 q5.length y4, .slice Y5 q6.length y5] 27 (0, 0))
        replace BK5 := Lib.hid (blk_below BK5.out hal_)
        replace BK6 := Lib.hid (blk_below BK6.out hal_)
        have BK121 := Lib.hid (blk_new w9 (.cells #[.int .u8 q1, .int .i64 q2, .int .i64 q3, .int .i64 q4, .slice Y4 q5.length y4, .slice Y5 q6.length y5] 27 (0, 0)))
        replace HB := Lib.hid (below_step HB.out hal_)
        clear hal_
        try clear hHeld_
        generalize w9.alloc (.cells #[.int .u8 q1, .int .i64 q2, .int .i64 q3, .int .i64 q4, .slice Y4 q5.length y4, .slice Y5 q6.length y5] 27 (0, 0)) = wn1 at BK121 BK5 BK6  HB ⊢
        generalize w9.heap.size = gb121 at BK121 GE121 NB5_121 NB121_5 NB6_121 NB121_6 ⊢
        obtain ⟨yc0, yc1, yc2, yc3, yc4, yc5, yf0, yf1, yf2, yf3, yf4, yf5⟩ := cs6 BK121.out
        by_cases hf1 : q7 = true
        case neg =>
          replace hf1 := Bool.eq_false_iff.mpr hf1
          subst hf1
          go_wp2_with fail
          clear yc0 yf0 yc1 yf1 yc2 yf2 yc3 yf3 yc4 yf4 yc5 yf5
          rw [rounds_succ]
          go_wp2_with fail
          go_ret
          exact ⟨by first | rfl | (unfold held_at.f; simp [*]), HB.out⟩
        subst hf1
        by_cases hk1 : q1 = kind
        case neg =>
          have hk1b : (q1 == kind) = false := beq_eq_false_iff_ne.mpr hk1
          replace hk1 := Lib.hid hk1
          go_wp2_with fail
          clear yc0 yf0 yc1 yf1 yc2 yf2 yc3 yf3 yc4 yf4 yc5 yf5
          rw [rounds_succ]
          go_wp2_with fail
          go_ret
          have hk1_ := hk1.out
          exact ⟨by first | rfl | (unfold held_at.f; simp [*]), HB.out⟩
        have hk1b : (q1 == kind) = true := beq_iff_eq.mpr hk1
        replace hk1 := Lib.hid hk1
        by_cases hv1 : q3 = version
        case neg =>
          have hv1b : (q3 == version) = false := beq_eq_false_iff_ne.mpr hv1
          replace hv1 := Lib.hid hv1
          go_wp2_with fail
          clear yc0 yf0 yc1 yf1 yc2 yf2 yc3 yf3 yc4 yf4 yc5 yf5
          rw [rounds_succ]
          go_wp2_with fail
          go_ret
          have hk1_ := hk1.out
          have hv1_ := hv1.out
          exact ⟨by first | rfl | (unfold held_at.f; simp [*]), HB.out⟩
        have hv1b : (q3 == version) = true := beq_iff_eq.mpr hv1
        replace hv1 := Lib.hid hv1
        go_wp2_with fail
        go_ret
        have hk1_ := hk1.out
        have hv1_ := hv1.out
        exact ⟨by first | rfl | (unfold held_at.f; simp [*]), HB.out⟩
      ·
        clear zc0 zc1 zc2 zc3 zc4 zc5 zf0 zf1 zf2 zf3 zf4 zf5
        clear ho4 ho5
        have GE121 := Lib.hid (show w.heap.size ≤ wn0.heap.size from below_size HB.out)
        have NB5_121 := Lib.hid (show gb5 ≠ wn0.heap.size from Nat.ne_of_lt (blk_lt BK5.out))
        have NB121_5 := Lib.hid NB5_121.out.symm
        have NB6_121 := Lib.hid (show gb6 ≠ wn0.heap.size from Nat.ne_of_lt (blk_lt BK6.out))
        have NB121_6 := Lib.hid NB6_121.out.symm
        replace BK5 := Lib.hid (blk_below (blk_drew (blk_below BK5.out (below_alloc (Below.refl _ _) _))) hb)
        replace BK6 := Lib.hid (blk_below (blk_drew (blk_below BK6.out (below_alloc (Below.refl _ _) _))) hb)
        replace HB := Lib.hid (below_step (below_drew1 (below_alloc HB.out _)) hb)
        have BK121 := Lib.hid hnw
        clear hb hnw
        generalize wn0.heap.size = gb121 at BK121 GE121 NB5_121 NB121_5 NB6_121 NB121_6 ⊢
        obtain ⟨hq1_, hq2_, hs_⟩ := st6_0_6 HB.out GE121.out BK121.out (.int .u8 q1) (.int .i64 q2) (.int .i64 q3) (.int .i64 q4) (.slice Y4 q5.length y4) (.slice Y5 q6.length y5)
        generalize ((((((w9.setCell ⟨gb121, 0, none⟩ (.int .u8 q1)).setCell ⟨gb121, 1, none⟩ (.int .i64 q2)).setCell ⟨gb121, 2, none⟩ (.int .i64 q3)).setCell ⟨gb121, 3, none⟩ (.int .i64 q4)).setCell ⟨gb121, 4, none⟩ (.slice Y4 q5.length y4)).setCell ⟨gb121, 5, none⟩ (.slice Y5 q6.length y5)) = wn1 at hs_ hq1_ hq2_ ⊢
        replace BK5 := Lib.hid ((hs_ gb5 NB5_121.out).trans BK5.out)
        replace BK6 := Lib.hid ((hs_ gb6 NB6_121.out).trans BK6.out)
        replace BK121 := Lib.hid hq1_
        replace HB := Lib.hid hq2_
        clear hs_ hq1_ hq2_
        obtain ⟨yc0, yc1, yc2, yc3, yc4, yc5, yf0, yf1, yf2, yf3, yf4, yf5⟩ := cs6 BK121.out
        by_cases hf1 : q7 = true
        case neg =>
          replace hf1 := Bool.eq_false_iff.mpr hf1
          subst hf1
          go_wp2_with fail
          clear yc0 yf0 yc1 yf1 yc2 yf2 yc3 yf3 yc4 yf4 yc5 yf5
          rw [rounds_succ]
          go_wp2_with fail
          go_ret
          exact ⟨by first | rfl | (unfold held_at.f; simp [*]), HB.out⟩
        subst hf1
        by_cases hk1 : q1 = kind
        case neg =>
          have hk1b : (q1 == kind) = false := beq_eq_false_iff_ne.mpr hk1
          replace hk1 := Lib.hid hk1
          go_wp2_with fail
          clear yc0 yf0 yc1 yf1 yc2 yf2 yc3 yf3 yc4 yf4 yc5 yf5
          rw [rounds_succ]
          go_wp2_with fail
          go_ret
          have hk1_ := hk1.out
          exact ⟨by first | rfl | (unfold held_at.f; simp [*]), HB.out⟩
        have hk1b : (q1 == kind) = true := beq_iff_eq.mpr hk1
        replace hk1 := Lib.hid hk1
        by_cases hv1 : q3 = version
        case neg =>
          have hv1b : (q3 == version) = false := beq_eq_false_iff_ne.mpr hv1
          replace hv1 := Lib.hid hv1
          go_wp2_with fail
          clear yc0 yf0 yc1 yf1 yc2 yf2 yc3 yf3 yc4 yf4 yc5 yf5
          rw [rounds_succ]
          go_wp2_with fail
          go_ret
          have hk1_ := hk1.out
          have hv1_ := hv1.out
          exact ⟨by first | rfl | (unfold held_at.f; simp [*]), HB.out⟩
        have hv1b : (q3 == version) = true := beq_iff_eq.mpr hv1
        replace hv1 := Lib.hid hv1
        go_wp2_with fail
        go_ret
        have hk1_ := hk1.out
        have hv1_ := hv1.out
        exact ⟨by first | rfl | (unfold held_at.f; simp [*]), HB.out⟩
    subst hf0
    by_cases hk0 : o1 = kind
    case neg =>
      have hk0b : (o1 == kind) = false := beq_eq_false_iff_ne.mpr hk0
      replace hk0 := Lib.hid hk0
      go_wp2_with fail
      clear yc0 yf0 yc1 yf1 yc2 yf2 yc3 yf3 yc4 yf4 yc5 yf5
      rw [rounds_succ]
      go_wp2_with fail
      go_region_held3 (fun w' => w'.cell? ⟨gb6, 1, none⟩ = some (.slice A1 l1.length c1) ∧ w'.cell? ⟨gb5, 0, none⟩ = some (.int .i64 a0) ∧ w'.cell? ⟨gb5, 1, none⟩ = some (.int .i64 a1) ∧ w'.cell? ⟨gb5, 2, none⟩ = some (.int .i64 a2) ∧ w'.cell? ⟨gb5, 3, none⟩ = some (.int .i64 a3)) (first | (with_reducible exact ⟨(blk_cell (blk_drew BK6.out) 1).trans rfl, (blk_cell (blk_drew BK5.out) 0).trans rfl, (blk_cell (blk_drew BK5.out) 1).trans rfl, (blk_cell (blk_drew BK5.out) 2).trans rfl, (blk_cell (blk_drew BK5.out) 3).trans rfl⟩) | (with_reducible exact ⟨(blk_cell (blk_drew (blk_below BK6.out (below_alloc (Below.refl _ _) _))) 1).trans rfl, (blk_cell (blk_drew (blk_below BK5.out (below_alloc (Below.refl _ _) _))) 0).trans rfl, (blk_cell (blk_drew (blk_below BK5.out (below_alloc (Below.refl _ _) _))) 1).trans rfl, (blk_cell (blk_drew (blk_below BK5.out (below_alloc (Below.refl _ _) _))) 2).trans rfl, (blk_cell (blk_drew (blk_below BK5.out (below_alloc (Below.refl _ _) _))) 3).trans rfl⟩) | (with_reducible exact ⟨(blk_cell (blk_below (blk_drew BK6.out) hb) 1).trans rfl, (blk_cell (blk_below (blk_drew BK5.out) hb) 0).trans rfl, (blk_cell (blk_below (blk_drew BK5.out) hb) 1).trans rfl, (blk_cell (blk_below (blk_drew BK5.out) hb) 2).trans rfl, (blk_cell (blk_below (blk_drew BK5.out) hb) 3).trans rfl⟩) | (with_reducible exact ⟨(blk_cell (blk_below (blk_drew (blk_below BK6.out (below_alloc (Below.refl _ _) _))) hb) 1).trans rfl, (blk_cell (blk_below (blk_drew (blk_below BK5.out (below_alloc (Below.refl _ _) _))) hb) 0).trans rfl, (blk_cell (blk_below (blk_drew (blk_below BK5.out (below_alloc (Below.refl _ _) _))) hb) 1).trans rfl, (blk_cell (blk_below (blk_drew (blk_below BK5.out (below_alloc (Below.refl _ _) _))) hb) 2).trans rfl, (blk_cell (blk_below (blk_drew (blk_below BK5.out (below_alloc (Below.refl _ _) _))) hb) 3).trans rfl⟩) | (with_reducible exact ⟨(blk_cell (blk_below (blk_below (blk_drew BK6.out) hb) (below_alloc (Below.refl _ _) _)) 1).trans rfl, (blk_cell (blk_below (blk_below (blk_drew BK5.out) hb) (below_alloc (Below.refl _ _) _)) 0).trans rfl, (blk_cell (blk_below (blk_below (blk_drew BK5.out) hb) (below_alloc (Below.refl _ _) _)) 1).trans rfl, (blk_cell (blk_below (blk_below (blk_drew BK5.out) hb) (below_alloc (Below.refl _ _) _)) 2).trans rfl, (blk_cell (blk_below (blk_below (blk_drew BK5.out) hb) (below_alloc (Below.refl _ _) _)) 3).trans rfl⟩) | (with_reducible exact ⟨(blk_cell (blk_far (p := ⟨wn0.heap.size, 5, none⟩) (blk_far (p := ⟨wn0.heap.size, 4, none⟩) (blk_far (p := ⟨wn0.heap.size, 3, none⟩) (blk_far (p := ⟨wn0.heap.size, 2, none⟩) (blk_far (p := ⟨wn0.heap.size, 1, none⟩) (blk_far (p := ⟨wn0.heap.size, 0, none⟩) (blk_below (blk_drew (blk_below BK6.out (below_alloc (Below.refl _ _) _))) hb) (Nat.ne_of_lt (blk_lt BK6.out)) (.int .u8 q1)) (Nat.ne_of_lt (blk_lt BK6.out)) (.int .i64 q2)) (Nat.ne_of_lt (blk_lt BK6.out)) (.int .i64 q3)) (Nat.ne_of_lt (blk_lt BK6.out)) (.int .i64 q4)) (Nat.ne_of_lt (blk_lt BK6.out)) (.slice Y4 q5.length y4)) (Nat.ne_of_lt (blk_lt BK6.out)) (.slice Y5 q6.length y5)) 1).trans rfl, (blk_cell (blk_far (p := ⟨wn0.heap.size, 5, none⟩) (blk_far (p := ⟨wn0.heap.size, 4, none⟩) (blk_far (p := ⟨wn0.heap.size, 3, none⟩) (blk_far (p := ⟨wn0.heap.size, 2, none⟩) (blk_far (p := ⟨wn0.heap.size, 1, none⟩) (blk_far (p := ⟨wn0.heap.size, 0, none⟩) (blk_below (blk_drew (blk_below BK5.out (below_alloc (Below.refl _ _) _))) hb) (Nat.ne_of_lt (blk_lt BK5.out)) (.int .u8 q1)) (Nat.ne_of_lt (blk_lt BK5.out)) (.int .i64 q2)) (Nat.ne_of_lt (blk_lt BK5.out)) (.int .i64 q3)) (Nat.ne_of_lt (blk_lt BK5.out)) (.int .i64 q4)) (Nat.ne_of_lt (blk_lt BK5.out)) (.slice Y4 q5.length y4)) (Nat.ne_of_lt (blk_lt BK5.out)) (.slice Y5 q6.length y5)) 0).trans rfl, (blk_cell (blk_far (p := ⟨wn0.heap.size, 5, none⟩) (blk_far (p := ⟨wn0.heap.size, 4, none⟩) (blk_far (p := ⟨wn0.heap.size, 3, none⟩) (blk_far (p := ⟨wn0.heap.size, 2, none⟩) (blk_far (p := ⟨wn0.heap.size, 1, none⟩) (blk_far (p := ⟨wn0.heap.size, 0, none⟩) (blk_below (blk_drew (blk_below BK5.out (below_alloc (Below.refl _ _) _))) hb) (Nat.ne_of_lt (blk_lt BK5.out)) (.int .u8 q1)) (Nat.ne_of_lt (blk_lt BK5.out)) (.int .i64 q2)) (Nat.ne_of_lt (blk_lt BK5.out)) (.int .i64 q3)) (Nat.ne_of_lt (blk_lt BK5.out)) (.int .i64 q4)) (Nat.ne_of_lt (blk_lt BK5.out)) (.slice Y4 q5.length y4)) (Nat.ne_of_lt (blk_lt BK5.out)) (.slice Y5 q6.length y5)) 1).trans rfl, (blk_cell (blk_far (p := ⟨wn0.heap.size, 5, none⟩) (blk_far (p := ⟨wn0.heap.size, 4, none⟩) (blk_far (p := ⟨wn0.heap.size, 3, none⟩) (blk_far (p := ⟨wn0.heap.size, 2, none⟩) (blk_far (p := ⟨wn0.heap.size, 1, none⟩) (blk_far (p := ⟨wn0.heap.size, 0, none⟩) (blk_below (blk_drew (blk_below BK5.out (below_alloc (Below.refl _ _) _))) hb) (Nat.ne_of_lt (blk_lt BK5.out)) (.int .u8 q1)) (Nat.ne_of_lt (blk_lt BK5.out)) (.int .i64 q2)) (Nat.ne_of_lt (blk_lt BK5.out)) (.int .i64 q3)) (Nat.ne_of_lt (blk_lt BK5.out)) (.int .i64 q4)) (Nat.ne_of_lt (blk_lt BK5.out)) (.slice Y4 q5.length y4)) (Nat.ne_of_lt (blk_lt BK5.out)) (.slice Y5 q6.length y5)) 2).trans rfl, (blk_cell (blk_far (p := ⟨wn0.heap.size, 5, none⟩) (blk_far (p := ⟨wn0.heap.size, 4, none⟩) (blk_far (p := ⟨wn0.heap.size, 3, none⟩) (blk_far (p := ⟨wn0.heap.size, 2, none⟩) (blk_far (p := ⟨wn0.heap.size, 1, none⟩) (blk_far (p := ⟨wn0.heap.size, 0, none⟩) (blk_below (blk_drew (blk_below BK5.out (below_alloc (Below.refl _ _) _))) hb) (Nat.ne_of_lt (blk_lt BK5.out)) (.int .u8 q1)) (Nat.ne_of_lt (blk_lt BK5.out)) (.int .i64 q2)) (Nat.ne_of_lt (blk_lt BK5.out)) (.int .i64 q3)) (Nat.ne_of_lt (blk_lt BK5.out)) (.int .i64 q4)) (Nat.ne_of_lt (blk_lt BK5.out)) (.slice Y4 q5.length y4)) (Nat.ne_of_lt (blk_lt BK5.out)) (.slice Y5 q6.length y5)) 3).trans rfl⟩)) ((go_at_call 43; refine (rOf.calls k a0 a1 a2 a3 A1 c1 l1 index s1 s2 s3 s4 s5 s6 s7 q1 q2 q3 q4 q5 q6 q7 _ (by first | exact Kd.C_below HR1.out (below_drew1 HB.out) | exact Kd.C_below HR1.out (below_drew1 (below_alloc HB.out _))) HC1.out HD1.out HO1.out).mono ?_; rintro en w9 ⟨u4, u5, rfl, ho4, ho5, hb⟩; obtain ⟨Y4, y4, rfl⟩ := Kd.R_slice ho4; obtain ⟨Y5, y5, rfl⟩ := Kd.R_slice ho5; (try (have hnw : w9.heap[wn0.heap.size]? = some (.cells #[.int .u8 0, .int .i64 0, .int .i64 0, .int .i64 0, .slice none 0 0, .slice none 0 0] 27 (0, 0)) := blk_below (blk_drew (blk_new _ _)) hb; obtain ⟨zc0, zc1, zc2, zc3, zc4, zc5, zf0, zf1, zf2, zf3, zf4, zf5⟩ := cs6 hnw))))
      ·
        clear ho4 ho5
        replace BK5 := Lib.hid (blk_below (blk_drew BK5.out) hb)
        replace BK6 := Lib.hid (blk_below (blk_drew BK6.out) hb)
        replace HB := Lib.hid (below_step (below_drew1 HB.out) hb)
        clear hb
        have GE121 := Lib.hid (show w.heap.size ≤ w9.heap.size from below_size HB.out)
        have NB5_121 := Lib.hid (show gb5 ≠ w9.heap.size from Nat.ne_of_lt (blk_lt BK5.out))
        have NB121_5 := Lib.hid NB5_121.out.symm
        have NB6_121 := Lib.hid (show gb6 ≠ w9.heap.size from Nat.ne_of_lt (blk_lt BK6.out))
        have NB121_6 := Lib.hid NB6_121.out.symm
        have hal_ := below_alloc (Below.refl w9.heap.size w9) (.cells #[.int .u8 q1, .int .i64 q2, .int .i64 q3, .int .i64 q4, .slice Y4 q5.length y4, .slice Y5 q6.length y5] 27 (0, 0))
        replace BK5 := Lib.hid (blk_below BK5.out hal_)
        replace BK6 := Lib.hid (blk_below BK6.out hal_)
        have BK121 := Lib.hid (blk_new w9 (.cells #[.int .u8 q1, .int .i64 q2, .int .i64 q3, .int .i64 q4, .slice Y4 q5.length y4, .slice Y5 q6.length y5] 27 (0, 0)))
        replace HB := Lib.hid (below_step HB.out hal_)
        clear hal_
        try clear hHeld_
        generalize w9.alloc (.cells #[.int .u8 q1, .int .i64 q2, .int .i64 q3, .int .i64 q4, .slice Y4 q5.length y4, .slice Y5 q6.length y5] 27 (0, 0)) = wn1 at BK121 BK5 BK6  HB ⊢
        generalize w9.heap.size = gb121 at BK121 GE121 NB5_121 NB121_5 NB6_121 NB121_6 ⊢
        obtain ⟨yc0, yc1, yc2, yc3, yc4, yc5, yf0, yf1, yf2, yf3, yf4, yf5⟩ := cs6 BK121.out
        by_cases hf1 : q7 = true
        case neg =>
          replace hf1 := Bool.eq_false_iff.mpr hf1
          subst hf1
          go_wp2_with fail
          clear yc0 yf0 yc1 yf1 yc2 yf2 yc3 yf3 yc4 yf4 yc5 yf5
          rw [rounds_succ]
          go_wp2_with fail
          go_ret
          have hk0_ := hk0.out
          exact ⟨by first | rfl | (unfold held_at.f; simp [*]), HB.out⟩
        subst hf1
        by_cases hk1 : q1 = kind
        case neg =>
          have hk1b : (q1 == kind) = false := beq_eq_false_iff_ne.mpr hk1
          replace hk1 := Lib.hid hk1
          go_wp2_with fail
          clear yc0 yf0 yc1 yf1 yc2 yf2 yc3 yf3 yc4 yf4 yc5 yf5
          rw [rounds_succ]
          go_wp2_with fail
          go_ret
          have hk0_ := hk0.out
          have hk1_ := hk1.out
          exact ⟨by first | rfl | (unfold held_at.f; simp [*]), HB.out⟩
        have hk1b : (q1 == kind) = true := beq_iff_eq.mpr hk1
        replace hk1 := Lib.hid hk1
        by_cases hv1 : q3 = version
        case neg =>
          have hv1b : (q3 == version) = false := beq_eq_false_iff_ne.mpr hv1
          replace hv1 := Lib.hid hv1
          go_wp2_with fail
          clear yc0 yf0 yc1 yf1 yc2 yf2 yc3 yf3 yc4 yf4 yc5 yf5
          rw [rounds_succ]
          go_wp2_with fail
          go_ret
          have hk0_ := hk0.out
          have hk1_ := hk1.out
          have hv1_ := hv1.out
          exact ⟨by first | rfl | (unfold held_at.f; simp [*]), HB.out⟩
        have hv1b : (q3 == version) = true := beq_iff_eq.mpr hv1
        replace hv1 := Lib.hid hv1
        go_wp2_with fail
        go_ret
        have hk0_ := hk0.out
        have hk1_ := hk1.out
        have hv1_ := hv1.out
        exact ⟨by first | rfl | (unfold held_at.f; simp [*]), HB.out⟩
      ·
        clear zc0 zc1 zc2 zc3 zc4 zc5 zf0 zf1 zf2 zf3 zf4 zf5
        clear ho4 ho5
        have GE121 := Lib.hid (show w.heap.size ≤ wn0.heap.size from below_size HB.out)
        have NB5_121 := Lib.hid (show gb5 ≠ wn0.heap.size from Nat.ne_of_lt (blk_lt BK5.out))
        have NB121_5 := Lib.hid NB5_121.out.symm
        have NB6_121 := Lib.hid (show gb6 ≠ wn0.heap.size from Nat.ne_of_lt (blk_lt BK6.out))
        have NB121_6 := Lib.hid NB6_121.out.symm
        replace BK5 := Lib.hid (blk_below (blk_drew (blk_below BK5.out (below_alloc (Below.refl _ _) _))) hb)
        replace BK6 := Lib.hid (blk_below (blk_drew (blk_below BK6.out (below_alloc (Below.refl _ _) _))) hb)
        replace HB := Lib.hid (below_step (below_drew1 (below_alloc HB.out _)) hb)
        have BK121 := Lib.hid hnw
        clear hb hnw
        generalize wn0.heap.size = gb121 at BK121 GE121 NB5_121 NB121_5 NB6_121 NB121_6 ⊢
        obtain ⟨hq1_, hq2_, hs_⟩ := st6_0_6 HB.out GE121.out BK121.out (.int .u8 q1) (.int .i64 q2) (.int .i64 q3) (.int .i64 q4) (.slice Y4 q5.length y4) (.slice Y5 q6.length y5)
        generalize ((((((w9.setCell ⟨gb121, 0, none⟩ (.int .u8 q1)).setCell ⟨gb121, 1, none⟩ (.int .i64 q2)).setCell ⟨gb121, 2, none⟩ (.int .i64 q3)).setCell ⟨gb121, 3, none⟩ (.int .i64 q4)).setCell ⟨gb121, 4, none⟩ (.slice Y4 q5.length y4)).setCell ⟨gb121, 5, none⟩ (.slice Y5 q6.length y5)) = wn1 at hs_ hq1_ hq2_ ⊢
        replace BK5 := Lib.hid ((hs_ gb5 NB5_121.out).trans BK5.out)
        replace BK6 := Lib.hid ((hs_ gb6 NB6_121.out).trans BK6.out)
        replace BK121 := Lib.hid hq1_
        replace HB := Lib.hid hq2_
        clear hs_ hq1_ hq2_
        obtain ⟨yc0, yc1, yc2, yc3, yc4, yc5, yf0, yf1, yf2, yf3, yf4, yf5⟩ := cs6 BK121.out
        by_cases hf1 : q7 = true
        case neg =>
          replace hf1 := Bool.eq_false_iff.mpr hf1
          subst hf1
          go_wp2_with fail
          clear yc0 yf0 yc1 yf1 yc2 yf2 yc3 yf3 yc4 yf4 yc5 yf5
          rw [rounds_succ]
          go_wp2_with fail
          go_ret
          have hk0_ := hk0.out
          exact ⟨by first | rfl | (unfold held_at.f; simp [*]), HB.out⟩
        subst hf1
        by_cases hk1 : q1 = kind
        case neg =>
          have hk1b : (q1 == kind) = false := beq_eq_false_iff_ne.mpr hk1
          replace hk1 := Lib.hid hk1
          go_wp2_with fail
          clear yc0 yf0 yc1 yf1 yc2 yf2 yc3 yf3 yc4 yf4 yc5 yf5
          rw [rounds_succ]
          go_wp2_with fail
          go_ret
          have hk0_ := hk0.out
          have hk1_ := hk1.out
          exact ⟨by first | rfl | (unfold held_at.f; simp [*]), HB.out⟩
        have hk1b : (q1 == kind) = true := beq_iff_eq.mpr hk1
        replace hk1 := Lib.hid hk1
        by_cases hv1 : q3 = version
        case neg =>
          have hv1b : (q3 == version) = false := beq_eq_false_iff_ne.mpr hv1
          replace hv1 := Lib.hid hv1
          go_wp2_with fail
          clear yc0 yf0 yc1 yf1 yc2 yf2 yc3 yf3 yc4 yf4 yc5 yf5
          rw [rounds_succ]
          go_wp2_with fail
          go_ret
          have hk0_ := hk0.out
          have hk1_ := hk1.out
          have hv1_ := hv1.out
          exact ⟨by first | rfl | (unfold held_at.f; simp [*]), HB.out⟩
        have hv1b : (q3 == version) = true := beq_iff_eq.mpr hv1
        replace hv1 := Lib.hid hv1
        go_wp2_with fail
        go_ret
        have hk0_ := hk0.out
        have hk1_ := hk1.out
        have hv1_ := hv1.out
        exact ⟨by first | rfl | (unfold held_at.f; simp [*]), HB.out⟩
    have hk0b : (o1 == kind) = true := beq_iff_eq.mpr hk0
    replace hk0 := Lib.hid hk0
    by_cases hv0 : o3 = version
    case neg =>
      have hv0b : (o3 == version) = false := beq_eq_false_iff_ne.mpr hv0
      replace hv0 := Lib.hid hv0
      go_wp2_with fail
      clear yc0 yf0 yc1 yf1 yc2 yf2 yc3 yf3 yc4 yf4 yc5 yf5
      rw [rounds_succ]
      go_wp2_with fail
      go_region_held3 (fun w' => w'.cell? ⟨gb6, 1, none⟩ = some (.slice A1 l1.length c1) ∧ w'.cell? ⟨gb5, 0, none⟩ = some (.int .i64 a0) ∧ w'.cell? ⟨gb5, 1, none⟩ = some (.int .i64 a1) ∧ w'.cell? ⟨gb5, 2, none⟩ = some (.int .i64 a2) ∧ w'.cell? ⟨gb5, 3, none⟩ = some (.int .i64 a3)) (first | (with_reducible exact ⟨(blk_cell (blk_drew BK6.out) 1).trans rfl, (blk_cell (blk_drew BK5.out) 0).trans rfl, (blk_cell (blk_drew BK5.out) 1).trans rfl, (blk_cell (blk_drew BK5.out) 2).trans rfl, (blk_cell (blk_drew BK5.out) 3).trans rfl⟩) | (with_reducible exact ⟨(blk_cell (blk_drew (blk_below BK6.out (below_alloc (Below.refl _ _) _))) 1).trans rfl, (blk_cell (blk_drew (blk_below BK5.out (below_alloc (Below.refl _ _) _))) 0).trans rfl, (blk_cell (blk_drew (blk_below BK5.out (below_alloc (Below.refl _ _) _))) 1).trans rfl, (blk_cell (blk_drew (blk_below BK5.out (below_alloc (Below.refl _ _) _))) 2).trans rfl, (blk_cell (blk_drew (blk_below BK5.out (below_alloc (Below.refl _ _) _))) 3).trans rfl⟩) | (with_reducible exact ⟨(blk_cell (blk_below (blk_drew BK6.out) hb) 1).trans rfl, (blk_cell (blk_below (blk_drew BK5.out) hb) 0).trans rfl, (blk_cell (blk_below (blk_drew BK5.out) hb) 1).trans rfl, (blk_cell (blk_below (blk_drew BK5.out) hb) 2).trans rfl, (blk_cell (blk_below (blk_drew BK5.out) hb) 3).trans rfl⟩) | (with_reducible exact ⟨(blk_cell (blk_below (blk_drew (blk_below BK6.out (below_alloc (Below.refl _ _) _))) hb) 1).trans rfl, (blk_cell (blk_below (blk_drew (blk_below BK5.out (below_alloc (Below.refl _ _) _))) hb) 0).trans rfl, (blk_cell (blk_below (blk_drew (blk_below BK5.out (below_alloc (Below.refl _ _) _))) hb) 1).trans rfl, (blk_cell (blk_below (blk_drew (blk_below BK5.out (below_alloc (Below.refl _ _) _))) hb) 2).trans rfl, (blk_cell (blk_below (blk_drew (blk_below BK5.out (below_alloc (Below.refl _ _) _))) hb) 3).trans rfl⟩) | (with_reducible exact ⟨(blk_cell (blk_below (blk_below (blk_drew BK6.out) hb) (below_alloc (Below.refl _ _) _)) 1).trans rfl, (blk_cell (blk_below (blk_below (blk_drew BK5.out) hb) (below_alloc (Below.refl _ _) _)) 0).trans rfl, (blk_cell (blk_below (blk_below (blk_drew BK5.out) hb) (below_alloc (Below.refl _ _) _)) 1).trans rfl, (blk_cell (blk_below (blk_below (blk_drew BK5.out) hb) (below_alloc (Below.refl _ _) _)) 2).trans rfl, (blk_cell (blk_below (blk_below (blk_drew BK5.out) hb) (below_alloc (Below.refl _ _) _)) 3).trans rfl⟩) | (with_reducible exact ⟨(blk_cell (blk_far (p := ⟨wn0.heap.size, 5, none⟩) (blk_far (p := ⟨wn0.heap.size, 4, none⟩) (blk_far (p := ⟨wn0.heap.size, 3, none⟩) (blk_far (p := ⟨wn0.heap.size, 2, none⟩) (blk_far (p := ⟨wn0.heap.size, 1, none⟩) (blk_far (p := ⟨wn0.heap.size, 0, none⟩) (blk_below (blk_drew (blk_below BK6.out (below_alloc (Below.refl _ _) _))) hb) (Nat.ne_of_lt (blk_lt BK6.out)) (.int .u8 q1)) (Nat.ne_of_lt (blk_lt BK6.out)) (.int .i64 q2)) (Nat.ne_of_lt (blk_lt BK6.out)) (.int .i64 q3)) (Nat.ne_of_lt (blk_lt BK6.out)) (.int .i64 q4)) (Nat.ne_of_lt (blk_lt BK6.out)) (.slice Y4 q5.length y4)) (Nat.ne_of_lt (blk_lt BK6.out)) (.slice Y5 q6.length y5)) 1).trans rfl, (blk_cell (blk_far (p := ⟨wn0.heap.size, 5, none⟩) (blk_far (p := ⟨wn0.heap.size, 4, none⟩) (blk_far (p := ⟨wn0.heap.size, 3, none⟩) (blk_far (p := ⟨wn0.heap.size, 2, none⟩) (blk_far (p := ⟨wn0.heap.size, 1, none⟩) (blk_far (p := ⟨wn0.heap.size, 0, none⟩) (blk_below (blk_drew (blk_below BK5.out (below_alloc (Below.refl _ _) _))) hb) (Nat.ne_of_lt (blk_lt BK5.out)) (.int .u8 q1)) (Nat.ne_of_lt (blk_lt BK5.out)) (.int .i64 q2)) (Nat.ne_of_lt (blk_lt BK5.out)) (.int .i64 q3)) (Nat.ne_of_lt (blk_lt BK5.out)) (.int .i64 q4)) (Nat.ne_of_lt (blk_lt BK5.out)) (.slice Y4 q5.length y4)) (Nat.ne_of_lt (blk_lt BK5.out)) (.slice Y5 q6.length y5)) 0).trans rfl, (blk_cell (blk_far (p := ⟨wn0.heap.size, 5, none⟩) (blk_far (p := ⟨wn0.heap.size, 4, none⟩) (blk_far (p := ⟨wn0.heap.size, 3, none⟩) (blk_far (p := ⟨wn0.heap.size, 2, none⟩) (blk_far (p := ⟨wn0.heap.size, 1, none⟩) (blk_far (p := ⟨wn0.heap.size, 0, none⟩) (blk_below (blk_drew (blk_below BK5.out (below_alloc (Below.refl _ _) _))) hb) (Nat.ne_of_lt (blk_lt BK5.out)) (.int .u8 q1)) (Nat.ne_of_lt (blk_lt BK5.out)) (.int .i64 q2)) (Nat.ne_of_lt (blk_lt BK5.out)) (.int .i64 q3)) (Nat.ne_of_lt (blk_lt BK5.out)) (.int .i64 q4)) (Nat.ne_of_lt (blk_lt BK5.out)) (.slice Y4 q5.length y4)) (Nat.ne_of_lt (blk_lt BK5.out)) (.slice Y5 q6.length y5)) 1).trans rfl, (blk_cell (blk_far (p := ⟨wn0.heap.size, 5, none⟩) (blk_far (p := ⟨wn0.heap.size, 4, none⟩) (blk_far (p := ⟨wn0.heap.size, 3, none⟩) (blk_far (p := ⟨wn0.heap.size, 2, none⟩) (blk_far (p := ⟨wn0.heap.size, 1, none⟩) (blk_far (p := ⟨wn0.heap.size, 0, none⟩) (blk_below (blk_drew (blk_below BK5.out (below_alloc (Below.refl _ _) _))) hb) (Nat.ne_of_lt (blk_lt BK5.out)) (.int .u8 q1)) (Nat.ne_of_lt (blk_lt BK5.out)) (.int .i64 q2)) (Nat.ne_of_lt (blk_lt BK5.out)) (.int .i64 q3)) (Nat.ne_of_lt (blk_lt BK5.out)) (.int .i64 q4)) (Nat.ne_of_lt (blk_lt BK5.out)) (.slice Y4 q5.length y4)) (Nat.ne_of_lt (blk_lt BK5.out)) (.slice Y5 q6.length y5)) 2).trans rfl, (blk_cell (blk_far (p := ⟨wn0.heap.size, 5, none⟩) (blk_far (p := ⟨wn0.heap.size, 4, none⟩) (blk_far (p := ⟨wn0.heap.size, 3, none⟩) (blk_far (p := ⟨wn0.heap.size, 2, none⟩) (blk_far (p := ⟨wn0.heap.size, 1, none⟩) (blk_far (p := ⟨wn0.heap.size, 0, none⟩) (blk_below (blk_drew (blk_below BK5.out (below_alloc (Below.refl _ _) _))) hb) (Nat.ne_of_lt (blk_lt BK5.out)) (.int .u8 q1)) (Nat.ne_of_lt (blk_lt BK5.out)) (.int .i64 q2)) (Nat.ne_of_lt (blk_lt BK5.out)) (.int .i64 q3)) (Nat.ne_of_lt (blk_lt BK5.out)) (.int .i64 q4)) (Nat.ne_of_lt (blk_lt BK5.out)) (.slice Y4 q5.length y4)) (Nat.ne_of_lt (blk_lt BK5.out)) (.slice Y5 q6.length y5)) 3).trans rfl⟩)) ((go_at_call 43; refine (rOf.calls k a0 a1 a2 a3 A1 c1 l1 index s1 s2 s3 s4 s5 s6 s7 q1 q2 q3 q4 q5 q6 q7 _ (by first | exact Kd.C_below HR1.out (below_drew1 HB.out) | exact Kd.C_below HR1.out (below_drew1 (below_alloc HB.out _))) HC1.out HD1.out HO1.out).mono ?_; rintro en w9 ⟨u4, u5, rfl, ho4, ho5, hb⟩; obtain ⟨Y4, y4, rfl⟩ := Kd.R_slice ho4; obtain ⟨Y5, y5, rfl⟩ := Kd.R_slice ho5; (try (have hnw : w9.heap[wn0.heap.size]? = some (.cells #[.int .u8 0, .int .i64 0, .int .i64 0, .int .i64 0, .slice none 0 0, .slice none 0 0] 27 (0, 0)) := blk_below (blk_drew (blk_new _ _)) hb; obtain ⟨zc0, zc1, zc2, zc3, zc4, zc5, zf0, zf1, zf2, zf3, zf4, zf5⟩ := cs6 hnw))))
      ·
        clear ho4 ho5
        replace BK5 := Lib.hid (blk_below (blk_drew BK5.out) hb)
        replace BK6 := Lib.hid (blk_below (blk_drew BK6.out) hb)
        replace HB := Lib.hid (below_step (below_drew1 HB.out) hb)
        clear hb
        have GE121 := Lib.hid (show w.heap.size ≤ w9.heap.size from below_size HB.out)
        have NB5_121 := Lib.hid (show gb5 ≠ w9.heap.size from Nat.ne_of_lt (blk_lt BK5.out))
        have NB121_5 := Lib.hid NB5_121.out.symm
        have NB6_121 := Lib.hid (show gb6 ≠ w9.heap.size from Nat.ne_of_lt (blk_lt BK6.out))
        have NB121_6 := Lib.hid NB6_121.out.symm
        have hal_ := below_alloc (Below.refl w9.heap.size w9) (.cells #[.int .u8 q1, .int .i64 q2, .int .i64 q3, .int .i64 q4, .slice Y4 q5.length y4, .slice Y5 q6.length y5] 27 (0, 0))
        replace BK5 := Lib.hid (blk_below BK5.out hal_)
        replace BK6 := Lib.hid (blk_below BK6.out hal_)
        have BK121 := Lib.hid (blk_new w9 (.cells #[.int .u8 q1, .int .i64 q2, .int .i64 q3, .int .i64 q4, .slice Y4 q5.length y4, .slice Y5 q6.length y5] 27 (0, 0)))
        replace HB := Lib.hid (below_step HB.out hal_)
        clear hal_
        try clear hHeld_
        generalize w9.alloc (.cells #[.int .u8 q1, .int .i64 q2, .int .i64 q3, .int .i64 q4, .slice Y4 q5.length y4, .slice Y5 q6.length y5] 27 (0, 0)) = wn1 at BK121 BK5 BK6  HB ⊢
        generalize w9.heap.size = gb121 at BK121 GE121 NB5_121 NB121_5 NB6_121 NB121_6 ⊢
        obtain ⟨yc0, yc1, yc2, yc3, yc4, yc5, yf0, yf1, yf2, yf3, yf4, yf5⟩ := cs6 BK121.out
        by_cases hf1 : q7 = true
        case neg =>
          replace hf1 := Bool.eq_false_iff.mpr hf1
          subst hf1
          go_wp2_with fail
          clear yc0 yf0 yc1 yf1 yc2 yf2 yc3 yf3 yc4 yf4 yc5 yf5
          rw [rounds_succ]
          go_wp2_with fail
          go_ret
          have hk0_ := hk0.out
          have hv0_ := hv0.out
          exact ⟨by first | rfl | (unfold held_at.f; simp [*]), HB.out⟩
        subst hf1
        by_cases hk1 : q1 = kind
        case neg =>
          have hk1b : (q1 == kind) = false := beq_eq_false_iff_ne.mpr hk1
          replace hk1 := Lib.hid hk1
          go_wp2_with fail
          clear yc0 yf0 yc1 yf1 yc2 yf2 yc3 yf3 yc4 yf4 yc5 yf5
          rw [rounds_succ]
          go_wp2_with fail
          go_ret
          have hk0_ := hk0.out
          have hv0_ := hv0.out
          have hk1_ := hk1.out
          exact ⟨by first | rfl | (unfold held_at.f; simp [*]), HB.out⟩
        have hk1b : (q1 == kind) = true := beq_iff_eq.mpr hk1
        replace hk1 := Lib.hid hk1
        by_cases hv1 : q3 = version
        case neg =>
          have hv1b : (q3 == version) = false := beq_eq_false_iff_ne.mpr hv1
          replace hv1 := Lib.hid hv1
          go_wp2_with fail
          clear yc0 yf0 yc1 yf1 yc2 yf2 yc3 yf3 yc4 yf4 yc5 yf5
          rw [rounds_succ]
          go_wp2_with fail
          go_ret
          have hk0_ := hk0.out
          have hv0_ := hv0.out
          have hk1_ := hk1.out
          have hv1_ := hv1.out
          exact ⟨by first | rfl | (unfold held_at.f; simp [*]), HB.out⟩
        have hv1b : (q3 == version) = true := beq_iff_eq.mpr hv1
        replace hv1 := Lib.hid hv1
        go_wp2_with fail
        go_ret
        have hk0_ := hk0.out
        have hv0_ := hv0.out
        have hk1_ := hk1.out
        have hv1_ := hv1.out
        exact ⟨by first | rfl | (unfold held_at.f; simp [*]), HB.out⟩
      ·
        clear zc0 zc1 zc2 zc3 zc4 zc5 zf0 zf1 zf2 zf3 zf4 zf5
        clear ho4 ho5
        have GE121 := Lib.hid (show w.heap.size ≤ wn0.heap.size from below_size HB.out)
        have NB5_121 := Lib.hid (show gb5 ≠ wn0.heap.size from Nat.ne_of_lt (blk_lt BK5.out))
        have NB121_5 := Lib.hid NB5_121.out.symm
        have NB6_121 := Lib.hid (show gb6 ≠ wn0.heap.size from Nat.ne_of_lt (blk_lt BK6.out))
        have NB121_6 := Lib.hid NB6_121.out.symm
        replace BK5 := Lib.hid (blk_below (blk_drew (blk_below BK5.out (below_alloc (Below.refl _ _) _))) hb)
        replace BK6 := Lib.hid (blk_below (blk_drew (blk_below BK6.out (below_alloc (Below.refl _ _) _))) hb)
        replace HB := Lib.hid (below_step (below_drew1 (below_alloc HB.out _)) hb)
        have BK121 := Lib.hid hnw
        clear hb hnw
        generalize wn0.heap.size = gb121 at BK121 GE121 NB5_121 NB121_5 NB6_121 NB121_6 ⊢
        obtain ⟨hq1_, hq2_, hs_⟩ := st6_0_6 HB.out GE121.out BK121.out (.int .u8 q1) (.int .i64 q2) (.int .i64 q3) (.int .i64 q4) (.slice Y4 q5.length y4) (.slice Y5 q6.length y5)
        generalize ((((((w9.setCell ⟨gb121, 0, none⟩ (.int .u8 q1)).setCell ⟨gb121, 1, none⟩ (.int .i64 q2)).setCell ⟨gb121, 2, none⟩ (.int .i64 q3)).setCell ⟨gb121, 3, none⟩ (.int .i64 q4)).setCell ⟨gb121, 4, none⟩ (.slice Y4 q5.length y4)).setCell ⟨gb121, 5, none⟩ (.slice Y5 q6.length y5)) = wn1 at hs_ hq1_ hq2_ ⊢
        replace BK5 := Lib.hid ((hs_ gb5 NB5_121.out).trans BK5.out)
        replace BK6 := Lib.hid ((hs_ gb6 NB6_121.out).trans BK6.out)
        replace BK121 := Lib.hid hq1_
        replace HB := Lib.hid hq2_
        clear hs_ hq1_ hq2_
        obtain ⟨yc0, yc1, yc2, yc3, yc4, yc5, yf0, yf1, yf2, yf3, yf4, yf5⟩ := cs6 BK121.out
        by_cases hf1 : q7 = true
        case neg =>
          replace hf1 := Bool.eq_false_iff.mpr hf1
          subst hf1
          go_wp2_with fail
          clear yc0 yf0 yc1 yf1 yc2 yf2 yc3 yf3 yc4 yf4 yc5 yf5
          rw [rounds_succ]
          go_wp2_with fail
          go_ret
          have hk0_ := hk0.out
          have hv0_ := hv0.out
          exact ⟨by first | rfl | (unfold held_at.f; simp [*]), HB.out⟩
        subst hf1
        by_cases hk1 : q1 = kind
        case neg =>
          have hk1b : (q1 == kind) = false := beq_eq_false_iff_ne.mpr hk1
          replace hk1 := Lib.hid hk1
          go_wp2_with fail
          clear yc0 yf0 yc1 yf1 yc2 yf2 yc3 yf3 yc4 yf4 yc5 yf5
          rw [rounds_succ]
          go_wp2_with fail
          go_ret
          have hk0_ := hk0.out
          have hv0_ := hv0.out
          have hk1_ := hk1.out
          exact ⟨by first | rfl | (unfold held_at.f; simp [*]), HB.out⟩
        have hk1b : (q1 == kind) = true := beq_iff_eq.mpr hk1
        replace hk1 := Lib.hid hk1
        by_cases hv1 : q3 = version
        case neg =>
          have hv1b : (q3 == version) = false := beq_eq_false_iff_ne.mpr hv1
          replace hv1 := Lib.hid hv1
          go_wp2_with fail
          clear yc0 yf0 yc1 yf1 yc2 yf2 yc3 yf3 yc4 yf4 yc5 yf5
          rw [rounds_succ]
          go_wp2_with fail
          go_ret
          have hk0_ := hk0.out
          have hv0_ := hv0.out
          have hk1_ := hk1.out
          have hv1_ := hv1.out
          exact ⟨by first | rfl | (unfold held_at.f; simp [*]), HB.out⟩
        have hv1b : (q3 == version) = true := beq_iff_eq.mpr hv1
        replace hv1 := Lib.hid hv1
        go_wp2_with fail
        go_ret
        have hk0_ := hk0.out
        have hv0_ := hv0.out
        have hk1_ := hk1.out
        have hv1_ := hv1.out
        exact ⟨by first | rfl | (unfold held_at.f; simp [*]), HB.out⟩
    have hv0b : (o3 == version) = true := beq_iff_eq.mpr hv0
    replace hv0 := Lib.hid hv0
    go_wp2_with fail
    go_ret
    have hk0_ := hk0.out
    have hv0_ := hv0.out
    exact ⟨by first | rfl | (unfold held_at.f; simp [*]), HB.out⟩
  ·
    clear zc0 zc1 zc2 zc3 zc4 zc5 zf0 zf1 zf2 zf3 zf4 zf5
    clear ho4 ho5
    have GE120 := Lib.hid (show w.heap.size ≤ w2.heap.size from below_size HB.out)
    have NB5_120 := Lib.hid (show gb5 ≠ w2.heap.size from Nat.ne_of_lt (blk_lt BK5.out))
    have NB120_5 := Lib.hid NB5_120.out.symm
    have NB6_120 := Lib.hid (show gb6 ≠ w2.heap.size from Nat.ne_of_lt (blk_lt BK6.out))
    have NB120_6 := Lib.hid NB6_120.out.symm
    replace BK5 := Lib.hid (blk_below (blk_drew (blk_below BK5.out (below_alloc (Below.refl _ _) _))) hb)
    replace BK6 := Lib.hid (blk_below (blk_drew (blk_below BK6.out (below_alloc (Below.refl _ _) _))) hb)
    replace HB := Lib.hid (below_step (below_drew1 (below_alloc HB.out _)) hb)
    have BK120 := Lib.hid hnw
    clear hb hnw
    generalize w2.heap.size = gb120 at BK120 GE120 NB5_120 NB120_5 NB6_120 NB120_6 ⊢
    obtain ⟨hq1_, hq2_, hs_⟩ := st6_0_6 HB.out GE120.out BK120.out (.int .u8 o1) (.int .i64 o2) (.int .i64 o3) (.int .i64 o4) (.slice X4 o5.length x4) (.slice X5 o6.length x5)
    generalize ((((((w9.setCell ⟨gb120, 0, none⟩ (.int .u8 o1)).setCell ⟨gb120, 1, none⟩ (.int .i64 o2)).setCell ⟨gb120, 2, none⟩ (.int .i64 o3)).setCell ⟨gb120, 3, none⟩ (.int .i64 o4)).setCell ⟨gb120, 4, none⟩ (.slice X4 o5.length x4)).setCell ⟨gb120, 5, none⟩ (.slice X5 o6.length x5)) = wn0 at hs_ hq1_ hq2_ ⊢
    replace BK5 := Lib.hid ((hs_ gb5 NB5_120.out).trans BK5.out)
    replace BK6 := Lib.hid ((hs_ gb6 NB6_120.out).trans BK6.out)
    replace BK120 := Lib.hid hq1_
    replace HB := Lib.hid hq2_
    clear hs_ hq1_ hq2_
    obtain ⟨yc0, yc1, yc2, yc3, yc4, yc5, yf0, yf1, yf2, yf3, yf4, yf5⟩ := cs6 BK120.out
    by_cases hf0 : o7 = true
    case neg =>
      replace hf0 := Bool.eq_false_iff.mpr hf0
      subst hf0
      go_wp2_with fail
      clear yc0 yf0 yc1 yf1 yc2 yf2 yc3 yf3 yc4 yf4 yc5 yf5
      rw [rounds_succ]
      go_wp2_with fail
      go_region_held3 (fun w' => w'.cell? ⟨gb6, 1, none⟩ = some (.slice A1 l1.length c1) ∧ w'.cell? ⟨gb5, 0, none⟩ = some (.int .i64 a0) ∧ w'.cell? ⟨gb5, 1, none⟩ = some (.int .i64 a1) ∧ w'.cell? ⟨gb5, 2, none⟩ = some (.int .i64 a2) ∧ w'.cell? ⟨gb5, 3, none⟩ = some (.int .i64 a3)) (first | (with_reducible exact ⟨(blk_cell (blk_drew BK6.out) 1).trans rfl, (blk_cell (blk_drew BK5.out) 0).trans rfl, (blk_cell (blk_drew BK5.out) 1).trans rfl, (blk_cell (blk_drew BK5.out) 2).trans rfl, (blk_cell (blk_drew BK5.out) 3).trans rfl⟩) | (with_reducible exact ⟨(blk_cell (blk_drew (blk_below BK6.out (below_alloc (Below.refl _ _) _))) 1).trans rfl, (blk_cell (blk_drew (blk_below BK5.out (below_alloc (Below.refl _ _) _))) 0).trans rfl, (blk_cell (blk_drew (blk_below BK5.out (below_alloc (Below.refl _ _) _))) 1).trans rfl, (blk_cell (blk_drew (blk_below BK5.out (below_alloc (Below.refl _ _) _))) 2).trans rfl, (blk_cell (blk_drew (blk_below BK5.out (below_alloc (Below.refl _ _) _))) 3).trans rfl⟩) | (with_reducible exact ⟨(blk_cell (blk_below (blk_drew BK6.out) hb) 1).trans rfl, (blk_cell (blk_below (blk_drew BK5.out) hb) 0).trans rfl, (blk_cell (blk_below (blk_drew BK5.out) hb) 1).trans rfl, (blk_cell (blk_below (blk_drew BK5.out) hb) 2).trans rfl, (blk_cell (blk_below (blk_drew BK5.out) hb) 3).trans rfl⟩) | (with_reducible exact ⟨(blk_cell (blk_below (blk_drew (blk_below BK6.out (below_alloc (Below.refl _ _) _))) hb) 1).trans rfl, (blk_cell (blk_below (blk_drew (blk_below BK5.out (below_alloc (Below.refl _ _) _))) hb) 0).trans rfl, (blk_cell (blk_below (blk_drew (blk_below BK5.out (below_alloc (Below.refl _ _) _))) hb) 1).trans rfl, (blk_cell (blk_below (blk_drew (blk_below BK5.out (below_alloc (Below.refl _ _) _))) hb) 2).trans rfl, (blk_cell (blk_below (blk_drew (blk_below BK5.out (below_alloc (Below.refl _ _) _))) hb) 3).trans rfl⟩) | (with_reducible exact ⟨(blk_cell (blk_below (blk_below (blk_drew BK6.out) hb) (below_alloc (Below.refl _ _) _)) 1).trans rfl, (blk_cell (blk_below (blk_below (blk_drew BK5.out) hb) (below_alloc (Below.refl _ _) _)) 0).trans rfl, (blk_cell (blk_below (blk_below (blk_drew BK5.out) hb) (below_alloc (Below.refl _ _) _)) 1).trans rfl, (blk_cell (blk_below (blk_below (blk_drew BK5.out) hb) (below_alloc (Below.refl _ _) _)) 2).trans rfl, (blk_cell (blk_below (blk_below (blk_drew BK5.out) hb) (below_alloc (Below.refl _ _) _)) 3).trans rfl⟩) | (with_reducible exact ⟨(blk_cell (blk_far (p := ⟨wn0.heap.size, 5, none⟩) (blk_far (p := ⟨wn0.heap.size, 4, none⟩) (blk_far (p := ⟨wn0.heap.size, 3, none⟩) (blk_far (p := ⟨wn0.heap.size, 2, none⟩) (blk_far (p := ⟨wn0.heap.size, 1, none⟩) (blk_far (p := ⟨wn0.heap.size, 0, none⟩) (blk_below (blk_drew (blk_below BK6.out (below_alloc (Below.refl _ _) _))) hb) (Nat.ne_of_lt (blk_lt BK6.out)) (.int .u8 q1)) (Nat.ne_of_lt (blk_lt BK6.out)) (.int .i64 q2)) (Nat.ne_of_lt (blk_lt BK6.out)) (.int .i64 q3)) (Nat.ne_of_lt (blk_lt BK6.out)) (.int .i64 q4)) (Nat.ne_of_lt (blk_lt BK6.out)) (.slice Y4 q5.length y4)) (Nat.ne_of_lt (blk_lt BK6.out)) (.slice Y5 q6.length y5)) 1).trans rfl, (blk_cell (blk_far (p := ⟨wn0.heap.size, 5, none⟩) (blk_far (p := ⟨wn0.heap.size, 4, none⟩) (blk_far (p := ⟨wn0.heap.size, 3, none⟩) (blk_far (p := ⟨wn0.heap.size, 2, none⟩) (blk_far (p := ⟨wn0.heap.size, 1, none⟩) (blk_far (p := ⟨wn0.heap.size, 0, none⟩) (blk_below (blk_drew (blk_below BK5.out (below_alloc (Below.refl _ _) _))) hb) (Nat.ne_of_lt (blk_lt BK5.out)) (.int .u8 q1)) (Nat.ne_of_lt (blk_lt BK5.out)) (.int .i64 q2)) (Nat.ne_of_lt (blk_lt BK5.out)) (.int .i64 q3)) (Nat.ne_of_lt (blk_lt BK5.out)) (.int .i64 q4)) (Nat.ne_of_lt (blk_lt BK5.out)) (.slice Y4 q5.length y4)) (Nat.ne_of_lt (blk_lt BK5.out)) (.slice Y5 q6.length y5)) 0).trans rfl, (blk_cell (blk_far (p := ⟨wn0.heap.size, 5, none⟩) (blk_far (p := ⟨wn0.heap.size, 4, none⟩) (blk_far (p := ⟨wn0.heap.size, 3, none⟩) (blk_far (p := ⟨wn0.heap.size, 2, none⟩) (blk_far (p := ⟨wn0.heap.size, 1, none⟩) (blk_far (p := ⟨wn0.heap.size, 0, none⟩) (blk_below (blk_drew (blk_below BK5.out (below_alloc (Below.refl _ _) _))) hb) (Nat.ne_of_lt (blk_lt BK5.out)) (.int .u8 q1)) (Nat.ne_of_lt (blk_lt BK5.out)) (.int .i64 q2)) (Nat.ne_of_lt (blk_lt BK5.out)) (.int .i64 q3)) (Nat.ne_of_lt (blk_lt BK5.out)) (.int .i64 q4)) (Nat.ne_of_lt (blk_lt BK5.out)) (.slice Y4 q5.length y4)) (Nat.ne_of_lt (blk_lt BK5.out)) (.slice Y5 q6.length y5)) 1).trans rfl, (blk_cell (blk_far (p := ⟨wn0.heap.size, 5, none⟩) (blk_far (p := ⟨wn0.heap.size, 4, none⟩) (blk_far (p := ⟨wn0.heap.size, 3, none⟩) (blk_far (p := ⟨wn0.heap.size, 2, none⟩) (blk_far (p := ⟨wn0.heap.size, 1, none⟩) (blk_far (p := ⟨wn0.heap.size, 0, none⟩) (blk_below (blk_drew (blk_below BK5.out (below_alloc (Below.refl _ _) _))) hb) (Nat.ne_of_lt (blk_lt BK5.out)) (.int .u8 q1)) (Nat.ne_of_lt (blk_lt BK5.out)) (.int .i64 q2)) (Nat.ne_of_lt (blk_lt BK5.out)) (.int .i64 q3)) (Nat.ne_of_lt (blk_lt BK5.out)) (.int .i64 q4)) (Nat.ne_of_lt (blk_lt BK5.out)) (.slice Y4 q5.length y4)) (Nat.ne_of_lt (blk_lt BK5.out)) (.slice Y5 q6.length y5)) 2).trans rfl, (blk_cell (blk_far (p := ⟨wn0.heap.size, 5, none⟩) (blk_far (p := ⟨wn0.heap.size, 4, none⟩) (blk_far (p := ⟨wn0.heap.size, 3, none⟩) (blk_far (p := ⟨wn0.heap.size, 2, none⟩) (blk_far (p := ⟨wn0.heap.size, 1, none⟩) (blk_far (p := ⟨wn0.heap.size, 0, none⟩) (blk_below (blk_drew (blk_below BK5.out (below_alloc (Below.refl _ _) _))) hb) (Nat.ne_of_lt (blk_lt BK5.out)) (.int .u8 q1)) (Nat.ne_of_lt (blk_lt BK5.out)) (.int .i64 q2)) (Nat.ne_of_lt (blk_lt BK5.out)) (.int .i64 q3)) (Nat.ne_of_lt (blk_lt BK5.out)) (.int .i64 q4)) (Nat.ne_of_lt (blk_lt BK5.out)) (.slice Y4 q5.length y4)) (Nat.ne_of_lt (blk_lt BK5.out)) (.slice Y5 q6.length y5)) 3).trans rfl⟩)) ((go_at_call 43; refine (rOf.calls k a0 a1 a2 a3 A1 c1 l1 index s1 s2 s3 s4 s5 s6 s7 q1 q2 q3 q4 q5 q6 q7 _ (by first | exact Kd.C_below HR1.out (below_drew1 HB.out) | exact Kd.C_below HR1.out (below_drew1 (below_alloc HB.out _))) HC1.out HD1.out HO1.out).mono ?_; rintro en w9 ⟨u4, u5, rfl, ho4, ho5, hb⟩; obtain ⟨Y4, y4, rfl⟩ := Kd.R_slice ho4; obtain ⟨Y5, y5, rfl⟩ := Kd.R_slice ho5; (try (have hnw : w9.heap[wn0.heap.size]? = some (.cells #[.int .u8 0, .int .i64 0, .int .i64 0, .int .i64 0, .slice none 0 0, .slice none 0 0] 27 (0, 0)) := blk_below (blk_drew (blk_new _ _)) hb; obtain ⟨zc0, zc1, zc2, zc3, zc4, zc5, zf0, zf1, zf2, zf3, zf4, zf5⟩ := cs6 hnw))))
      ·
        clear ho4 ho5
        replace BK5 := Lib.hid (blk_below (blk_drew BK5.out) hb)
        replace BK6 := Lib.hid (blk_below (blk_drew BK6.out) hb)
        replace HB := Lib.hid (below_step (below_drew1 HB.out) hb)
        clear hb
        have GE121 := Lib.hid (show w.heap.size ≤ w9.heap.size from below_size HB.out)
        have NB5_121 := Lib.hid (show gb5 ≠ w9.heap.size from Nat.ne_of_lt (blk_lt BK5.out))
        have NB121_5 := Lib.hid NB5_121.out.symm
        have NB6_121 := Lib.hid (show gb6 ≠ w9.heap.size from Nat.ne_of_lt (blk_lt BK6.out))
        have NB121_6 := Lib.hid NB6_121.out.symm
        have hal_ := below_alloc (Below.refl w9.heap.size w9) (.cells #[.int .u8 q1, .int .i64 q2, .int .i64 q3, .int .i64 q4, .slice Y4 q5.length y4, .slice Y5 q6.length y5] 27 (0, 0))
        replace BK5 := Lib.hid (blk_below BK5.out hal_)
        replace BK6 := Lib.hid (blk_below BK6.out hal_)
        have BK121 := Lib.hid (blk_new w9 (.cells #[.int .u8 q1, .int .i64 q2, .int .i64 q3, .int .i64 q4, .slice Y4 q5.length y4, .slice Y5 q6.length y5] 27 (0, 0)))
        replace HB := Lib.hid (below_step HB.out hal_)
        clear hal_
        try clear hHeld_
        generalize w9.alloc (.cells #[.int .u8 q1, .int .i64 q2, .int .i64 q3, .int .i64 q4, .slice Y4 q5.length y4, .slice Y5 q6.length y5] 27 (0, 0)) = wn1 at BK121 BK5 BK6  HB ⊢
        generalize w9.heap.size = gb121 at BK121 GE121 NB5_121 NB121_5 NB6_121 NB121_6 ⊢
        obtain ⟨yc0, yc1, yc2, yc3, yc4, yc5, yf0, yf1, yf2, yf3, yf4, yf5⟩ := cs6 BK121.out
        by_cases hf1 : q7 = true
        case neg =>
          replace hf1 := Bool.eq_false_iff.mpr hf1
          subst hf1
          go_wp2_with fail
          clear yc0 yf0 yc1 yf1 yc2 yf2 yc3 yf3 yc4 yf4 yc5 yf5
          rw [rounds_succ]
          go_wp2_with fail
          go_ret
          exact ⟨by first | rfl | (unfold held_at.f; simp [*]), HB.out⟩
        subst hf1
        by_cases hk1 : q1 = kind
        case neg =>
          have hk1b : (q1 == kind) = false := beq_eq_false_iff_ne.mpr hk1
          replace hk1 := Lib.hid hk1
          go_wp2_with fail
          clear yc0 yf0 yc1 yf1 yc2 yf2 yc3 yf3 yc4 yf4 yc5 yf5
          rw [rounds_succ]
          go_wp2_with fail
          go_ret
          have hk1_ := hk1.out
          exact ⟨by first | rfl | (unfold held_at.f; simp [*]), HB.out⟩
        have hk1b : (q1 == kind) = true := beq_iff_eq.mpr hk1
        replace hk1 := Lib.hid hk1
        by_cases hv1 : q3 = version
        case neg =>
          have hv1b : (q3 == version) = false := beq_eq_false_iff_ne.mpr hv1
          replace hv1 := Lib.hid hv1
          go_wp2_with fail
          clear yc0 yf0 yc1 yf1 yc2 yf2 yc3 yf3 yc4 yf4 yc5 yf5
          rw [rounds_succ]
          go_wp2_with fail
          go_ret
          have hk1_ := hk1.out
          have hv1_ := hv1.out
          exact ⟨by first | rfl | (unfold held_at.f; simp [*]), HB.out⟩
        have hv1b : (q3 == version) = true := beq_iff_eq.mpr hv1
        replace hv1 := Lib.hid hv1
        go_wp2_with fail
        go_ret
        have hk1_ := hk1.out
        have hv1_ := hv1.out
        exact ⟨by first | rfl | (unfold held_at.f; simp [*]), HB.out⟩
      ·
        clear zc0 zc1 zc2 zc3 zc4 zc5 zf0 zf1 zf2 zf3 zf4 zf5
        clear ho4 ho5
        have GE121 := Lib.hid (show w.heap.size ≤ wn0.heap.size from below_size HB.out)
        have NB5_121 := Lib.hid (show gb5 ≠ wn0.heap.size from Nat.ne_of_lt (blk_lt BK5.out))
        have NB121_5 := Lib.hid NB5_121.out.symm
        have NB6_121 := Lib.hid (show gb6 ≠ wn0.heap.size from Nat.ne_of_lt (blk_lt BK6.out))
        have NB121_6 := Lib.hid NB6_121.out.symm
        replace BK5 := Lib.hid (blk_below (blk_drew (blk_below BK5.out (below_alloc (Below.refl _ _) _))) hb)
        replace BK6 := Lib.hid (blk_below (blk_drew (blk_below BK6.out (below_alloc (Below.refl _ _) _))) hb)
        replace HB := Lib.hid (below_step (below_drew1 (below_alloc HB.out _)) hb)
        have BK121 := Lib.hid hnw
        clear hb hnw
        generalize wn0.heap.size = gb121 at BK121 GE121 NB5_121 NB121_5 NB6_121 NB121_6 ⊢
        obtain ⟨hq1_, hq2_, hs_⟩ := st6_0_6 HB.out GE121.out BK121.out (.int .u8 q1) (.int .i64 q2) (.int .i64 q3) (.int .i64 q4) (.slice Y4 q5.length y4) (.slice Y5 q6.length y5)
        generalize ((((((w9.setCell ⟨gb121, 0, none⟩ (.int .u8 q1)).setCell ⟨gb121, 1, none⟩ (.int .i64 q2)).setCell ⟨gb121, 2, none⟩ (.int .i64 q3)).setCell ⟨gb121, 3, none⟩ (.int .i64 q4)).setCell ⟨gb121, 4, none⟩ (.slice Y4 q5.length y4)).setCell ⟨gb121, 5, none⟩ (.slice Y5 q6.length y5)) = wn1 at hs_ hq1_ hq2_ ⊢
        replace BK5 := Lib.hid ((hs_ gb5 NB5_121.out).trans BK5.out)
        replace BK6 := Lib.hid ((hs_ gb6 NB6_121.out).trans BK6.out)
        replace BK121 := Lib.hid hq1_
        replace HB := Lib.hid hq2_
        clear hs_ hq1_ hq2_
        obtain ⟨yc0, yc1, yc2, yc3, yc4, yc5, yf0, yf1, yf2, yf3, yf4, yf5⟩ := cs6 BK121.out
        by_cases hf1 : q7 = true
        case neg =>
          replace hf1 := Bool.eq_false_iff.mpr hf1
          subst hf1
          go_wp2_with fail
          clear yc0 yf0 yc1 yf1 yc2 yf2 yc3 yf3 yc4 yf4 yc5 yf5
          rw [rounds_succ]
          go_wp2_with fail
          go_ret
          exact ⟨by first | rfl | (unfold held_at.f; simp [*]), HB.out⟩
        subst hf1
        by_cases hk1 : q1 = kind
        case neg =>
          have hk1b : (q1 == kind) = false := beq_eq_false_iff_ne.mpr hk1
          replace hk1 := Lib.hid hk1
          go_wp2_with fail
          clear yc0 yf0 yc1 yf1 yc2 yf2 yc3 yf3 yc4 yf4 yc5 yf5
          rw [rounds_succ]
          go_wp2_with fail
          go_ret
          have hk1_ := hk1.out
          exact ⟨by first | rfl | (unfold held_at.f; simp [*]), HB.out⟩
        have hk1b : (q1 == kind) = true := beq_iff_eq.mpr hk1
        replace hk1 := Lib.hid hk1
        by_cases hv1 : q3 = version
        case neg =>
          have hv1b : (q3 == version) = false := beq_eq_false_iff_ne.mpr hv1
          replace hv1 := Lib.hid hv1
          go_wp2_with fail
          clear yc0 yf0 yc1 yf1 yc2 yf2 yc3 yf3 yc4 yf4 yc5 yf5
          rw [rounds_succ]
          go_wp2_with fail
          go_ret
          have hk1_ := hk1.out
          have hv1_ := hv1.out
          exact ⟨by first | rfl | (unfold held_at.f; simp [*]), HB.out⟩
        have hv1b : (q3 == version) = true := beq_iff_eq.mpr hv1
        replace hv1 := Lib.hid hv1
        go_wp2_with fail
        go_ret
        have hk1_ := hk1.out
        have hv1_ := hv1.out
        exact ⟨by first | rfl | (unfold held_at.f; simp [*]), HB.out⟩
    subst hf0
    by_cases hk0 : o1 = kind
    case neg =>
      have hk0b : (o1 == kind) = false := beq_eq_false_iff_ne.mpr hk0
      replace hk0 := Lib.hid hk0
      go_wp2_with fail
      clear yc0 yf0 yc1 yf1 yc2 yf2 yc3 yf3 yc4 yf4 yc5 yf5
      rw [rounds_succ]
      go_wp2_with fail
      go_region_held3 (fun w' => w'.cell? ⟨gb6, 1, none⟩ = some (.slice A1 l1.length c1) ∧ w'.cell? ⟨gb5, 0, none⟩ = some (.int .i64 a0) ∧ w'.cell? ⟨gb5, 1, none⟩ = some (.int .i64 a1) ∧ w'.cell? ⟨gb5, 2, none⟩ = some (.int .i64 a2) ∧ w'.cell? ⟨gb5, 3, none⟩ = some (.int .i64 a3)) (first | (with_reducible exact ⟨(blk_cell (blk_drew BK6.out) 1).trans rfl, (blk_cell (blk_drew BK5.out) 0).trans rfl, (blk_cell (blk_drew BK5.out) 1).trans rfl, (blk_cell (blk_drew BK5.out) 2).trans rfl, (blk_cell (blk_drew BK5.out) 3).trans rfl⟩) | (with_reducible exact ⟨(blk_cell (blk_drew (blk_below BK6.out (below_alloc (Below.refl _ _) _))) 1).trans rfl, (blk_cell (blk_drew (blk_below BK5.out (below_alloc (Below.refl _ _) _))) 0).trans rfl, (blk_cell (blk_drew (blk_below BK5.out (below_alloc (Below.refl _ _) _))) 1).trans rfl, (blk_cell (blk_drew (blk_below BK5.out (below_alloc (Below.refl _ _) _))) 2).trans rfl, (blk_cell (blk_drew (blk_below BK5.out (below_alloc (Below.refl _ _) _))) 3).trans rfl⟩) | (with_reducible exact ⟨(blk_cell (blk_below (blk_drew BK6.out) hb) 1).trans rfl, (blk_cell (blk_below (blk_drew BK5.out) hb) 0).trans rfl, (blk_cell (blk_below (blk_drew BK5.out) hb) 1).trans rfl, (blk_cell (blk_below (blk_drew BK5.out) hb) 2).trans rfl, (blk_cell (blk_below (blk_drew BK5.out) hb) 3).trans rfl⟩) | (with_reducible exact ⟨(blk_cell (blk_below (blk_drew (blk_below BK6.out (below_alloc (Below.refl _ _) _))) hb) 1).trans rfl, (blk_cell (blk_below (blk_drew (blk_below BK5.out (below_alloc (Below.refl _ _) _))) hb) 0).trans rfl, (blk_cell (blk_below (blk_drew (blk_below BK5.out (below_alloc (Below.refl _ _) _))) hb) 1).trans rfl, (blk_cell (blk_below (blk_drew (blk_below BK5.out (below_alloc (Below.refl _ _) _))) hb) 2).trans rfl, (blk_cell (blk_below (blk_drew (blk_below BK5.out (below_alloc (Below.refl _ _) _))) hb) 3).trans rfl⟩) | (with_reducible exact ⟨(blk_cell (blk_below (blk_below (blk_drew BK6.out) hb) (below_alloc (Below.refl _ _) _)) 1).trans rfl, (blk_cell (blk_below (blk_below (blk_drew BK5.out) hb) (below_alloc (Below.refl _ _) _)) 0).trans rfl, (blk_cell (blk_below (blk_below (blk_drew BK5.out) hb) (below_alloc (Below.refl _ _) _)) 1).trans rfl, (blk_cell (blk_below (blk_below (blk_drew BK5.out) hb) (below_alloc (Below.refl _ _) _)) 2).trans rfl, (blk_cell (blk_below (blk_below (blk_drew BK5.out) hb) (below_alloc (Below.refl _ _) _)) 3).trans rfl⟩) | (with_reducible exact ⟨(blk_cell (blk_far (p := ⟨wn0.heap.size, 5, none⟩) (blk_far (p := ⟨wn0.heap.size, 4, none⟩) (blk_far (p := ⟨wn0.heap.size, 3, none⟩) (blk_far (p := ⟨wn0.heap.size, 2, none⟩) (blk_far (p := ⟨wn0.heap.size, 1, none⟩) (blk_far (p := ⟨wn0.heap.size, 0, none⟩) (blk_below (blk_drew (blk_below BK6.out (below_alloc (Below.refl _ _) _))) hb) (Nat.ne_of_lt (blk_lt BK6.out)) (.int .u8 q1)) (Nat.ne_of_lt (blk_lt BK6.out)) (.int .i64 q2)) (Nat.ne_of_lt (blk_lt BK6.out)) (.int .i64 q3)) (Nat.ne_of_lt (blk_lt BK6.out)) (.int .i64 q4)) (Nat.ne_of_lt (blk_lt BK6.out)) (.slice Y4 q5.length y4)) (Nat.ne_of_lt (blk_lt BK6.out)) (.slice Y5 q6.length y5)) 1).trans rfl, (blk_cell (blk_far (p := ⟨wn0.heap.size, 5, none⟩) (blk_far (p := ⟨wn0.heap.size, 4, none⟩) (blk_far (p := ⟨wn0.heap.size, 3, none⟩) (blk_far (p := ⟨wn0.heap.size, 2, none⟩) (blk_far (p := ⟨wn0.heap.size, 1, none⟩) (blk_far (p := ⟨wn0.heap.size, 0, none⟩) (blk_below (blk_drew (blk_below BK5.out (below_alloc (Below.refl _ _) _))) hb) (Nat.ne_of_lt (blk_lt BK5.out)) (.int .u8 q1)) (Nat.ne_of_lt (blk_lt BK5.out)) (.int .i64 q2)) (Nat.ne_of_lt (blk_lt BK5.out)) (.int .i64 q3)) (Nat.ne_of_lt (blk_lt BK5.out)) (.int .i64 q4)) (Nat.ne_of_lt (blk_lt BK5.out)) (.slice Y4 q5.length y4)) (Nat.ne_of_lt (blk_lt BK5.out)) (.slice Y5 q6.length y5)) 0).trans rfl, (blk_cell (blk_far (p := ⟨wn0.heap.size, 5, none⟩) (blk_far (p := ⟨wn0.heap.size, 4, none⟩) (blk_far (p := ⟨wn0.heap.size, 3, none⟩) (blk_far (p := ⟨wn0.heap.size, 2, none⟩) (blk_far (p := ⟨wn0.heap.size, 1, none⟩) (blk_far (p := ⟨wn0.heap.size, 0, none⟩) (blk_below (blk_drew (blk_below BK5.out (below_alloc (Below.refl _ _) _))) hb) (Nat.ne_of_lt (blk_lt BK5.out)) (.int .u8 q1)) (Nat.ne_of_lt (blk_lt BK5.out)) (.int .i64 q2)) (Nat.ne_of_lt (blk_lt BK5.out)) (.int .i64 q3)) (Nat.ne_of_lt (blk_lt BK5.out)) (.int .i64 q4)) (Nat.ne_of_lt (blk_lt BK5.out)) (.slice Y4 q5.length y4)) (Nat.ne_of_lt (blk_lt BK5.out)) (.slice Y5 q6.length y5)) 1).trans rfl, (blk_cell (blk_far (p := ⟨wn0.heap.size, 5, none⟩) (blk_far (p := ⟨wn0.heap.size, 4, none⟩) (blk_far (p := ⟨wn0.heap.size, 3, none⟩) (blk_far (p := ⟨wn0.heap.size, 2, none⟩) (blk_far (p := ⟨wn0.heap.size, 1, none⟩) (blk_far (p := ⟨wn0.heap.size, 0, none⟩) (blk_below (blk_drew (blk_below BK5.out (below_alloc (Below.refl _ _) _))) hb) (Nat.ne_of_lt (blk_lt BK5.out)) (.int .u8 q1)) (Nat.ne_of_lt (blk_lt BK5.out)) (.int .i64 q2)) (Nat.ne_of_lt (blk_lt BK5.out)) (.int .i64 q3)) (Nat.ne_of_lt (blk_lt BK5.out)) (.int .i64 q4)) (Nat.ne_of_lt (blk_lt BK5.out)) (.slice Y4 q5.length y4)) (Nat.ne_of_lt (blk_lt BK5.out)) (.slice Y5 q6.length y5)) 2).trans rfl, (blk_cell (blk_far (p := ⟨wn0.heap.size, 5, none⟩) (blk_far (p := ⟨wn0.heap.size, 4, none⟩) (blk_far (p := ⟨wn0.heap.size, 3, none⟩) (blk_far (p := ⟨wn0.heap.size, 2, none⟩) (blk_far (p := ⟨wn0.heap.size, 1, none⟩) (blk_far (p := ⟨wn0.heap.size, 0, none⟩) (blk_below (blk_drew (blk_below BK5.out (below_alloc (Below.refl _ _) _))) hb) (Nat.ne_of_lt (blk_lt BK5.out)) (.int .u8 q1)) (Nat.ne_of_lt (blk_lt BK5.out)) (.int .i64 q2)) (Nat.ne_of_lt (blk_lt BK5.out)) (.int .i64 q3)) (Nat.ne_of_lt (blk_lt BK5.out)) (.int .i64 q4)) (Nat.ne_of_lt (blk_lt BK5.out)) (.slice Y4 q5.length y4)) (Nat.ne_of_lt (blk_lt BK5.out)) (.slice Y5 q6.length y5)) 3).trans rfl⟩)) ((go_at_call 43; refine (rOf.calls k a0 a1 a2 a3 A1 c1 l1 index s1 s2 s3 s4 s5 s6 s7 q1 q2 q3 q4 q5 q6 q7 _ (by first | exact Kd.C_below HR1.out (below_drew1 HB.out) | exact Kd.C_below HR1.out (below_drew1 (below_alloc HB.out _))) HC1.out HD1.out HO1.out).mono ?_; rintro en w9 ⟨u4, u5, rfl, ho4, ho5, hb⟩; obtain ⟨Y4, y4, rfl⟩ := Kd.R_slice ho4; obtain ⟨Y5, y5, rfl⟩ := Kd.R_slice ho5; (try (have hnw : w9.heap[wn0.heap.size]? = some (.cells #[.int .u8 0, .int .i64 0, .int .i64 0, .int .i64 0, .slice none 0 0, .slice none 0 0] 27 (0, 0)) := blk_below (blk_drew (blk_new _ _)) hb; obtain ⟨zc0, zc1, zc2, zc3, zc4, zc5, zf0, zf1, zf2, zf3, zf4, zf5⟩ := cs6 hnw))))
      ·
        clear ho4 ho5
        replace BK5 := Lib.hid (blk_below (blk_drew BK5.out) hb)
        replace BK6 := Lib.hid (blk_below (blk_drew BK6.out) hb)
        replace HB := Lib.hid (below_step (below_drew1 HB.out) hb)
        clear hb
        have GE121 := Lib.hid (show w.heap.size ≤ w9.heap.size from below_size HB.out)
        have NB5_121 := Lib.hid (show gb5 ≠ w9.heap.size from Nat.ne_of_lt (blk_lt BK5.out))
        have NB121_5 := Lib.hid NB5_121.out.symm
        have NB6_121 := Lib.hid (show gb6 ≠ w9.heap.size from Nat.ne_of_lt (blk_lt BK6.out))
        have NB121_6 := Lib.hid NB6_121.out.symm
        have hal_ := below_alloc (Below.refl w9.heap.size w9) (.cells #[.int .u8 q1, .int .i64 q2, .int .i64 q3, .int .i64 q4, .slice Y4 q5.length y4, .slice Y5 q6.length y5] 27 (0, 0))
        replace BK5 := Lib.hid (blk_below BK5.out hal_)
        replace BK6 := Lib.hid (blk_below BK6.out hal_)
        have BK121 := Lib.hid (blk_new w9 (.cells #[.int .u8 q1, .int .i64 q2, .int .i64 q3, .int .i64 q4, .slice Y4 q5.length y4, .slice Y5 q6.length y5] 27 (0, 0)))
        replace HB := Lib.hid (below_step HB.out hal_)
        clear hal_
        try clear hHeld_
        generalize w9.alloc (.cells #[.int .u8 q1, .int .i64 q2, .int .i64 q3, .int .i64 q4, .slice Y4 q5.length y4, .slice Y5 q6.length y5] 27 (0, 0)) = wn1 at BK121 BK5 BK6  HB ⊢
        generalize w9.heap.size = gb121 at BK121 GE121 NB5_121 NB121_5 NB6_121 NB121_6 ⊢
        obtain ⟨yc0, yc1, yc2, yc3, yc4, yc5, yf0, yf1, yf2, yf3, yf4, yf5⟩ := cs6 BK121.out
        by_cases hf1 : q7 = true
        case neg =>
          replace hf1 := Bool.eq_false_iff.mpr hf1
          subst hf1
          go_wp2_with fail
          clear yc0 yf0 yc1 yf1 yc2 yf2 yc3 yf3 yc4 yf4 yc5 yf5
          rw [rounds_succ]
          go_wp2_with fail
          go_ret
          have hk0_ := hk0.out
          exact ⟨by first | rfl | (unfold held_at.f; simp [*]), HB.out⟩
        subst hf1
        by_cases hk1 : q1 = kind
        case neg =>
          have hk1b : (q1 == kind) = false := beq_eq_false_iff_ne.mpr hk1
          replace hk1 := Lib.hid hk1
          go_wp2_with fail
          clear yc0 yf0 yc1 yf1 yc2 yf2 yc3 yf3 yc4 yf4 yc5 yf5
          rw [rounds_succ]
          go_wp2_with fail
          go_ret
          have hk0_ := hk0.out
          have hk1_ := hk1.out
          exact ⟨by first | rfl | (unfold held_at.f; simp [*]), HB.out⟩
        have hk1b : (q1 == kind) = true := beq_iff_eq.mpr hk1
        replace hk1 := Lib.hid hk1
        by_cases hv1 : q3 = version
        case neg =>
          have hv1b : (q3 == version) = false := beq_eq_false_iff_ne.mpr hv1
          replace hv1 := Lib.hid hv1
          go_wp2_with fail
          clear yc0 yf0 yc1 yf1 yc2 yf2 yc3 yf3 yc4 yf4 yc5 yf5
          rw [rounds_succ]
          go_wp2_with fail
          go_ret
          have hk0_ := hk0.out
          have hk1_ := hk1.out
          have hv1_ := hv1.out
          exact ⟨by first | rfl | (unfold held_at.f; simp [*]), HB.out⟩
        have hv1b : (q3 == version) = true := beq_iff_eq.mpr hv1
        replace hv1 := Lib.hid hv1
        go_wp2_with fail
        go_ret
        have hk0_ := hk0.out
        have hk1_ := hk1.out
        have hv1_ := hv1.out
        exact ⟨by first | rfl | (unfold held_at.f; simp [*]), HB.out⟩
      ·
        clear zc0 zc1 zc2 zc3 zc4 zc5 zf0 zf1 zf2 zf3 zf4 zf5
        clear ho4 ho5
        have GE121 := Lib.hid (show w.heap.size ≤ wn0.heap.size from below_size HB.out)
        have NB5_121 := Lib.hid (show gb5 ≠ wn0.heap.size from Nat.ne_of_lt (blk_lt BK5.out))
        have NB121_5 := Lib.hid NB5_121.out.symm
        have NB6_121 := Lib.hid (show gb6 ≠ wn0.heap.size from Nat.ne_of_lt (blk_lt BK6.out))
        have NB121_6 := Lib.hid NB6_121.out.symm
        replace BK5 := Lib.hid (blk_below (blk_drew (blk_below BK5.out (below_alloc (Below.refl _ _) _))) hb)
        replace BK6 := Lib.hid (blk_below (blk_drew (blk_below BK6.out (below_alloc (Below.refl _ _) _))) hb)
        replace HB := Lib.hid (below_step (below_drew1 (below_alloc HB.out _)) hb)
        have BK121 := Lib.hid hnw
        clear hb hnw
        generalize wn0.heap.size = gb121 at BK121 GE121 NB5_121 NB121_5 NB6_121 NB121_6 ⊢
        obtain ⟨hq1_, hq2_, hs_⟩ := st6_0_6 HB.out GE121.out BK121.out (.int .u8 q1) (.int .i64 q2) (.int .i64 q3) (.int .i64 q4) (.slice Y4 q5.length y4) (.slice Y5 q6.length y5)
        generalize ((((((w9.setCell ⟨gb121, 0, none⟩ (.int .u8 q1)).setCell ⟨gb121, 1, none⟩ (.int .i64 q2)).setCell ⟨gb121, 2, none⟩ (.int .i64 q3)).setCell ⟨gb121, 3, none⟩ (.int .i64 q4)).setCell ⟨gb121, 4, none⟩ (.slice Y4 q5.length y4)).setCell ⟨gb121, 5, none⟩ (.slice Y5 q6.length y5)) = wn1 at hs_ hq1_ hq2_ ⊢
        replace BK5 := Lib.hid ((hs_ gb5 NB5_121.out).trans BK5.out)
        replace BK6 := Lib.hid ((hs_ gb6 NB6_121.out).trans BK6.out)
        replace BK121 := Lib.hid hq1_
        replace HB := Lib.hid hq2_
        clear hs_ hq1_ hq2_
        obtain ⟨yc0, yc1, yc2, yc3, yc4, yc5, yf0, yf1, yf2, yf3, yf4, yf5⟩ := cs6 BK121.out
        by_cases hf1 : q7 = true
        case neg =>
          replace hf1 := Bool.eq_false_iff.mpr hf1
          subst hf1
          go_wp2_with fail
          clear yc0 yf0 yc1 yf1 yc2 yf2 yc3 yf3 yc4 yf4 yc5 yf5
          rw [rounds_succ]
          go_wp2_with fail
          go_ret
          have hk0_ := hk0.out
          exact ⟨by first | rfl | (unfold held_at.f; simp [*]), HB.out⟩
        subst hf1
        by_cases hk1 : q1 = kind
        case neg =>
          have hk1b : (q1 == kind) = false := beq_eq_false_iff_ne.mpr hk1
          replace hk1 := Lib.hid hk1
          go_wp2_with fail
          clear yc0 yf0 yc1 yf1 yc2 yf2 yc3 yf3 yc4 yf4 yc5 yf5
          rw [rounds_succ]
          go_wp2_with fail
          go_ret
          have hk0_ := hk0.out
          have hk1_ := hk1.out
          exact ⟨by first | rfl | (unfold held_at.f; simp [*]), HB.out⟩
        have hk1b : (q1 == kind) = true := beq_iff_eq.mpr hk1
        replace hk1 := Lib.hid hk1
        by_cases hv1 : q3 = version
        case neg =>
          have hv1b : (q3 == version) = false := beq_eq_false_iff_ne.mpr hv1
          replace hv1 := Lib.hid hv1
          go_wp2_with fail
          clear yc0 yf0 yc1 yf1 yc2 yf2 yc3 yf3 yc4 yf4 yc5 yf5
          rw [rounds_succ]
          go_wp2_with fail
          go_ret
          have hk0_ := hk0.out
          have hk1_ := hk1.out
          have hv1_ := hv1.out
          exact ⟨by first | rfl | (unfold held_at.f; simp [*]), HB.out⟩
        have hv1b : (q3 == version) = true := beq_iff_eq.mpr hv1
        replace hv1 := Lib.hid hv1
        go_wp2_with fail
        go_ret
        have hk0_ := hk0.out
        have hk1_ := hk1.out
        have hv1_ := hv1.out
        exact ⟨by first | rfl | (unfold held_at.f; simp [*]), HB.out⟩
    have hk0b : (o1 == kind) = true := beq_iff_eq.mpr hk0
    replace hk0 := Lib.hid hk0
    by_cases hv0 : o3 = version
    case neg =>
      have hv0b : (o3 == version) = false := beq_eq_false_iff_ne.mpr hv0
      replace hv0 := Lib.hid hv0
      go_wp2_with fail
      clear yc0 yf0 yc1 yf1 yc2 yf2 yc3 yf3 yc4 yf4 yc5 yf5
      rw [rounds_succ]
      go_wp2_with fail
      go_region_held3 (fun w' => w'.cell? ⟨gb6, 1, none⟩ = some (.slice A1 l1.length c1) ∧ w'.cell? ⟨gb5, 0, none⟩ = some (.int .i64 a0) ∧ w'.cell? ⟨gb5, 1, none⟩ = some (.int .i64 a1) ∧ w'.cell? ⟨gb5, 2, none⟩ = some (.int .i64 a2) ∧ w'.cell? ⟨gb5, 3, none⟩ = some (.int .i64 a3)) (first | (with_reducible exact ⟨(blk_cell (blk_drew BK6.out) 1).trans rfl, (blk_cell (blk_drew BK5.out) 0).trans rfl, (blk_cell (blk_drew BK5.out) 1).trans rfl, (blk_cell (blk_drew BK5.out) 2).trans rfl, (blk_cell (blk_drew BK5.out) 3).trans rfl⟩) | (with_reducible exact ⟨(blk_cell (blk_drew (blk_below BK6.out (below_alloc (Below.refl _ _) _))) 1).trans rfl, (blk_cell (blk_drew (blk_below BK5.out (below_alloc (Below.refl _ _) _))) 0).trans rfl, (blk_cell (blk_drew (blk_below BK5.out (below_alloc (Below.refl _ _) _))) 1).trans rfl, (blk_cell (blk_drew (blk_below BK5.out (below_alloc (Below.refl _ _) _))) 2).trans rfl, (blk_cell (blk_drew (blk_below BK5.out (below_alloc (Below.refl _ _) _))) 3).trans rfl⟩) | (with_reducible exact ⟨(blk_cell (blk_below (blk_drew BK6.out) hb) 1).trans rfl, (blk_cell (blk_below (blk_drew BK5.out) hb) 0).trans rfl, (blk_cell (blk_below (blk_drew BK5.out) hb) 1).trans rfl, (blk_cell (blk_below (blk_drew BK5.out) hb) 2).trans rfl, (blk_cell (blk_below (blk_drew BK5.out) hb) 3).trans rfl⟩) | (with_reducible exact ⟨(blk_cell (blk_below (blk_drew (blk_below BK6.out (below_alloc (Below.refl _ _) _))) hb) 1).trans rfl, (blk_cell (blk_below (blk_drew (blk_below BK5.out (below_alloc (Below.refl _ _) _))) hb) 0).trans rfl, (blk_cell (blk_below (blk_drew (blk_below BK5.out (below_alloc (Below.refl _ _) _))) hb) 1).trans rfl, (blk_cell (blk_below (blk_drew (blk_below BK5.out (below_alloc (Below.refl _ _) _))) hb) 2).trans rfl, (blk_cell (blk_below (blk_drew (blk_below BK5.out (below_alloc (Below.refl _ _) _))) hb) 3).trans rfl⟩) | (with_reducible exact ⟨(blk_cell (blk_below (blk_below (blk_drew BK6.out) hb) (below_alloc (Below.refl _ _) _)) 1).trans rfl, (blk_cell (blk_below (blk_below (blk_drew BK5.out) hb) (below_alloc (Below.refl _ _) _)) 0).trans rfl, (blk_cell (blk_below (blk_below (blk_drew BK5.out) hb) (below_alloc (Below.refl _ _) _)) 1).trans rfl, (blk_cell (blk_below (blk_below (blk_drew BK5.out) hb) (below_alloc (Below.refl _ _) _)) 2).trans rfl, (blk_cell (blk_below (blk_below (blk_drew BK5.out) hb) (below_alloc (Below.refl _ _) _)) 3).trans rfl⟩) | (with_reducible exact ⟨(blk_cell (blk_far (p := ⟨wn0.heap.size, 5, none⟩) (blk_far (p := ⟨wn0.heap.size, 4, none⟩) (blk_far (p := ⟨wn0.heap.size, 3, none⟩) (blk_far (p := ⟨wn0.heap.size, 2, none⟩) (blk_far (p := ⟨wn0.heap.size, 1, none⟩) (blk_far (p := ⟨wn0.heap.size, 0, none⟩) (blk_below (blk_drew (blk_below BK6.out (below_alloc (Below.refl _ _) _))) hb) (Nat.ne_of_lt (blk_lt BK6.out)) (.int .u8 q1)) (Nat.ne_of_lt (blk_lt BK6.out)) (.int .i64 q2)) (Nat.ne_of_lt (blk_lt BK6.out)) (.int .i64 q3)) (Nat.ne_of_lt (blk_lt BK6.out)) (.int .i64 q4)) (Nat.ne_of_lt (blk_lt BK6.out)) (.slice Y4 q5.length y4)) (Nat.ne_of_lt (blk_lt BK6.out)) (.slice Y5 q6.length y5)) 1).trans rfl, (blk_cell (blk_far (p := ⟨wn0.heap.size, 5, none⟩) (blk_far (p := ⟨wn0.heap.size, 4, none⟩) (blk_far (p := ⟨wn0.heap.size, 3, none⟩) (blk_far (p := ⟨wn0.heap.size, 2, none⟩) (blk_far (p := ⟨wn0.heap.size, 1, none⟩) (blk_far (p := ⟨wn0.heap.size, 0, none⟩) (blk_below (blk_drew (blk_below BK5.out (below_alloc (Below.refl _ _) _))) hb) (Nat.ne_of_lt (blk_lt BK5.out)) (.int .u8 q1)) (Nat.ne_of_lt (blk_lt BK5.out)) (.int .i64 q2)) (Nat.ne_of_lt (blk_lt BK5.out)) (.int .i64 q3)) (Nat.ne_of_lt (blk_lt BK5.out)) (.int .i64 q4)) (Nat.ne_of_lt (blk_lt BK5.out)) (.slice Y4 q5.length y4)) (Nat.ne_of_lt (blk_lt BK5.out)) (.slice Y5 q6.length y5)) 0).trans rfl, (blk_cell (blk_far (p := ⟨wn0.heap.size, 5, none⟩) (blk_far (p := ⟨wn0.heap.size, 4, none⟩) (blk_far (p := ⟨wn0.heap.size, 3, none⟩) (blk_far (p := ⟨wn0.heap.size, 2, none⟩) (blk_far (p := ⟨wn0.heap.size, 1, none⟩) (blk_far (p := ⟨wn0.heap.size, 0, none⟩) (blk_below (blk_drew (blk_below BK5.out (below_alloc (Below.refl _ _) _))) hb) (Nat.ne_of_lt (blk_lt BK5.out)) (.int .u8 q1)) (Nat.ne_of_lt (blk_lt BK5.out)) (.int .i64 q2)) (Nat.ne_of_lt (blk_lt BK5.out)) (.int .i64 q3)) (Nat.ne_of_lt (blk_lt BK5.out)) (.int .i64 q4)) (Nat.ne_of_lt (blk_lt BK5.out)) (.slice Y4 q5.length y4)) (Nat.ne_of_lt (blk_lt BK5.out)) (.slice Y5 q6.length y5)) 1).trans rfl, (blk_cell (blk_far (p := ⟨wn0.heap.size, 5, none⟩) (blk_far (p := ⟨wn0.heap.size, 4, none⟩) (blk_far (p := ⟨wn0.heap.size, 3, none⟩) (blk_far (p := ⟨wn0.heap.size, 2, none⟩) (blk_far (p := ⟨wn0.heap.size, 1, none⟩) (blk_far (p := ⟨wn0.heap.size, 0, none⟩) (blk_below (blk_drew (blk_below BK5.out (below_alloc (Below.refl _ _) _))) hb) (Nat.ne_of_lt (blk_lt BK5.out)) (.int .u8 q1)) (Nat.ne_of_lt (blk_lt BK5.out)) (.int .i64 q2)) (Nat.ne_of_lt (blk_lt BK5.out)) (.int .i64 q3)) (Nat.ne_of_lt (blk_lt BK5.out)) (.int .i64 q4)) (Nat.ne_of_lt (blk_lt BK5.out)) (.slice Y4 q5.length y4)) (Nat.ne_of_lt (blk_lt BK5.out)) (.slice Y5 q6.length y5)) 2).trans rfl, (blk_cell (blk_far (p := ⟨wn0.heap.size, 5, none⟩) (blk_far (p := ⟨wn0.heap.size, 4, none⟩) (blk_far (p := ⟨wn0.heap.size, 3, none⟩) (blk_far (p := ⟨wn0.heap.size, 2, none⟩) (blk_far (p := ⟨wn0.heap.size, 1, none⟩) (blk_far (p := ⟨wn0.heap.size, 0, none⟩) (blk_below (blk_drew (blk_below BK5.out (below_alloc (Below.refl _ _) _))) hb) (Nat.ne_of_lt (blk_lt BK5.out)) (.int .u8 q1)) (Nat.ne_of_lt (blk_lt BK5.out)) (.int .i64 q2)) (Nat.ne_of_lt (blk_lt BK5.out)) (.int .i64 q3)) (Nat.ne_of_lt (blk_lt BK5.out)) (.int .i64 q4)) (Nat.ne_of_lt (blk_lt BK5.out)) (.slice Y4 q5.length y4)) (Nat.ne_of_lt (blk_lt BK5.out)) (.slice Y5 q6.length y5)) 3).trans rfl⟩)) ((go_at_call 43; refine (rOf.calls k a0 a1 a2 a3 A1 c1 l1 index s1 s2 s3 s4 s5 s6 s7 q1 q2 q3 q4 q5 q6 q7 _ (by first | exact Kd.C_below HR1.out (below_drew1 HB.out) | exact Kd.C_below HR1.out (below_drew1 (below_alloc HB.out _))) HC1.out HD1.out HO1.out).mono ?_; rintro en w9 ⟨u4, u5, rfl, ho4, ho5, hb⟩; obtain ⟨Y4, y4, rfl⟩ := Kd.R_slice ho4; obtain ⟨Y5, y5, rfl⟩ := Kd.R_slice ho5; (try (have hnw : w9.heap[wn0.heap.size]? = some (.cells #[.int .u8 0, .int .i64 0, .int .i64 0, .int .i64 0, .slice none 0 0, .slice none 0 0] 27 (0, 0)) := blk_below (blk_drew (blk_new _ _)) hb; obtain ⟨zc0, zc1, zc2, zc3, zc4, zc5, zf0, zf1, zf2, zf3, zf4, zf5⟩ := cs6 hnw))))
      ·
        clear ho4 ho5
        replace BK5 := Lib.hid (blk_below (blk_drew BK5.out) hb)
        replace BK6 := Lib.hid (blk_below (blk_drew BK6.out) hb)
        replace HB := Lib.hid (below_step (below_drew1 HB.out) hb)
        clear hb
        have GE121 := Lib.hid (show w.heap.size ≤ w9.heap.size from below_size HB.out)
        have NB5_121 := Lib.hid (show gb5 ≠ w9.heap.size from Nat.ne_of_lt (blk_lt BK5.out))
        have NB121_5 := Lib.hid NB5_121.out.symm
        have NB6_121 := Lib.hid (show gb6 ≠ w9.heap.size from Nat.ne_of_lt (blk_lt BK6.out))
        have NB121_6 := Lib.hid NB6_121.out.symm
        have hal_ := below_alloc (Below.refl w9.heap.size w9) (.cells #[.int .u8 q1, .int .i64 q2, .int .i64 q3, .int .i64 q4, .slice Y4 q5.length y4, .slice Y5 q6.length y5] 27 (0, 0))
        replace BK5 := Lib.hid (blk_below BK5.out hal_)
        replace BK6 := Lib.hid (blk_below BK6.out hal_)
        have BK121 := Lib.hid (blk_new w9 (.cells #[.int .u8 q1, .int .i64 q2, .int .i64 q3, .int .i64 q4, .slice Y4 q5.length y4, .slice Y5 q6.length y5] 27 (0, 0)))
        replace HB := Lib.hid (below_step HB.out hal_)
        clear hal_
        try clear hHeld_
        generalize w9.alloc (.cells #[.int .u8 q1, .int .i64 q2, .int .i64 q3, .int .i64 q4, .slice Y4 q5.length y4, .slice Y5 q6.length y5] 27 (0, 0)) = wn1 at BK121 BK5 BK6  HB ⊢
        generalize w9.heap.size = gb121 at BK121 GE121 NB5_121 NB121_5 NB6_121 NB121_6 ⊢
        obtain ⟨yc0, yc1, yc2, yc3, yc4, yc5, yf0, yf1, yf2, yf3, yf4, yf5⟩ := cs6 BK121.out
        by_cases hf1 : q7 = true
        case neg =>
          replace hf1 := Bool.eq_false_iff.mpr hf1
          subst hf1
          go_wp2_with fail
          clear yc0 yf0 yc1 yf1 yc2 yf2 yc3 yf3 yc4 yf4 yc5 yf5
          rw [rounds_succ]
          go_wp2_with fail
          go_ret
          have hk0_ := hk0.out
          have hv0_ := hv0.out
          exact ⟨by first | rfl | (unfold held_at.f; simp [*]), HB.out⟩
        subst hf1
        by_cases hk1 : q1 = kind
        case neg =>
          have hk1b : (q1 == kind) = false := beq_eq_false_iff_ne.mpr hk1
          replace hk1 := Lib.hid hk1
          go_wp2_with fail
          clear yc0 yf0 yc1 yf1 yc2 yf2 yc3 yf3 yc4 yf4 yc5 yf5
          rw [rounds_succ]
          go_wp2_with fail
          go_ret
          have hk0_ := hk0.out
          have hv0_ := hv0.out
          have hk1_ := hk1.out
          exact ⟨by first | rfl | (unfold held_at.f; simp [*]), HB.out⟩
        have hk1b : (q1 == kind) = true := beq_iff_eq.mpr hk1
        replace hk1 := Lib.hid hk1
        by_cases hv1 : q3 = version
        case neg =>
          have hv1b : (q3 == version) = false := beq_eq_false_iff_ne.mpr hv1
          replace hv1 := Lib.hid hv1
          go_wp2_with fail
          clear yc0 yf0 yc1 yf1 yc2 yf2 yc3 yf3 yc4 yf4 yc5 yf5
          rw [rounds_succ]
          go_wp2_with fail
          go_ret
          have hk0_ := hk0.out
          have hv0_ := hv0.out
          have hk1_ := hk1.out
          have hv1_ := hv1.out
          exact ⟨by first | rfl | (unfold held_at.f; simp [*]), HB.out⟩
        have hv1b : (q3 == version) = true := beq_iff_eq.mpr hv1
        replace hv1 := Lib.hid hv1
        go_wp2_with fail
        go_ret
        have hk0_ := hk0.out
        have hv0_ := hv0.out
        have hk1_ := hk1.out
        have hv1_ := hv1.out
        exact ⟨by first | rfl | (unfold held_at.f; simp [*]), HB.out⟩
      ·
        clear zc0 zc1 zc2 zc3 zc4 zc5 zf0 zf1 zf2 zf3 zf4 zf5
        clear ho4 ho5
        have GE121 := Lib.hid (show w.heap.size ≤ wn0.heap.size from below_size HB.out)
        have NB5_121 := Lib.hid (show gb5 ≠ wn0.heap.size from Nat.ne_of_lt (blk_lt BK5.out))
        have NB121_5 := Lib.hid NB5_121.out.symm
        have NB6_121 := Lib.hid (show gb6 ≠ wn0.heap.size from Nat.ne_of_lt (blk_lt BK6.out))
        have NB121_6 := Lib.hid NB6_121.out.symm
        replace BK5 := Lib.hid (blk_below (blk_drew (blk_below BK5.out (below_alloc (Below.refl _ _) _))) hb)
        replace BK6 := Lib.hid (blk_below (blk_drew (blk_below BK6.out (below_alloc (Below.refl _ _) _))) hb)
        replace HB := Lib.hid (below_step (below_drew1 (below_alloc HB.out _)) hb)
        have BK121 := Lib.hid hnw
        clear hb hnw
        generalize wn0.heap.size = gb121 at BK121 GE121 NB5_121 NB121_5 NB6_121 NB121_6 ⊢
        obtain ⟨hq1_, hq2_, hs_⟩ := st6_0_6 HB.out GE121.out BK121.out (.int .u8 q1) (.int .i64 q2) (.int .i64 q3) (.int .i64 q4) (.slice Y4 q5.length y4) (.slice Y5 q6.length y5)
        generalize ((((((w9.setCell ⟨gb121, 0, none⟩ (.int .u8 q1)).setCell ⟨gb121, 1, none⟩ (.int .i64 q2)).setCell ⟨gb121, 2, none⟩ (.int .i64 q3)).setCell ⟨gb121, 3, none⟩ (.int .i64 q4)).setCell ⟨gb121, 4, none⟩ (.slice Y4 q5.length y4)).setCell ⟨gb121, 5, none⟩ (.slice Y5 q6.length y5)) = wn1 at hs_ hq1_ hq2_ ⊢
        replace BK5 := Lib.hid ((hs_ gb5 NB5_121.out).trans BK5.out)
        replace BK6 := Lib.hid ((hs_ gb6 NB6_121.out).trans BK6.out)
        replace BK121 := Lib.hid hq1_
        replace HB := Lib.hid hq2_
        clear hs_ hq1_ hq2_
        obtain ⟨yc0, yc1, yc2, yc3, yc4, yc5, yf0, yf1, yf2, yf3, yf4, yf5⟩ := cs6 BK121.out
        by_cases hf1 : q7 = true
        case neg =>
          replace hf1 := Bool.eq_false_iff.mpr hf1
          subst hf1
          go_wp2_with fail
          clear yc0 yf0 yc1 yf1 yc2 yf2 yc3 yf3 yc4 yf4 yc5 yf5
          rw [rounds_succ]
          go_wp2_with fail
          go_ret
          have hk0_ := hk0.out
          have hv0_ := hv0.out
          exact ⟨by first | rfl | (unfold held_at.f; simp [*]), HB.out⟩
        subst hf1
        by_cases hk1 : q1 = kind
        case neg =>
          have hk1b : (q1 == kind) = false := beq_eq_false_iff_ne.mpr hk1
          replace hk1 := Lib.hid hk1
          go_wp2_with fail
          clear yc0 yf0 yc1 yf1 yc2 yf2 yc3 yf3 yc4 yf4 yc5 yf5
          rw [rounds_succ]
          go_wp2_with fail
          go_ret
          have hk0_ := hk0.out
          have hv0_ := hv0.out
          have hk1_ := hk1.out
          exact ⟨by first | rfl | (unfold held_at.f; simp [*]), HB.out⟩
        have hk1b : (q1 == kind) = true := beq_iff_eq.mpr hk1
        replace hk1 := Lib.hid hk1
        by_cases hv1 : q3 = version
        case neg =>
          have hv1b : (q3 == version) = false := beq_eq_false_iff_ne.mpr hv1
          replace hv1 := Lib.hid hv1
          go_wp2_with fail
          clear yc0 yf0 yc1 yf1 yc2 yf2 yc3 yf3 yc4 yf4 yc5 yf5
          rw [rounds_succ]
          go_wp2_with fail
          go_ret
          have hk0_ := hk0.out
          have hv0_ := hv0.out
          have hk1_ := hk1.out
          have hv1_ := hv1.out
          exact ⟨by first | rfl | (unfold held_at.f; simp [*]), HB.out⟩
        have hv1b : (q3 == version) = true := beq_iff_eq.mpr hv1
        replace hv1 := Lib.hid hv1
        go_wp2_with fail
        go_ret
        have hk0_ := hk0.out
        have hv0_ := hv0.out
        have hk1_ := hk1.out
        have hv1_ := hv1.out
        exact ⟨by first | rfl | (unfold held_at.f; simp [*]), HB.out⟩
    have hv0b : (o3 == version) = true := beq_iff_eq.mpr hv0
    replace hv0 := Lib.hid hv0
    go_wp2_with fail
    go_ret
    have hk0_ := hk0.out
    have hv0_ := hv0.out
    exact ⟨by first | rfl | (unfold held_at.f; simp [*]), HB.out⟩
end Go.Proofs.Ytihefjdabjmmaaa.PD
