/- What twoslotref11.Next and Older do. No condition. -/
import Derived.Test.YtihefjdabjmmaaaCellRAsk
import Derived.Test.YtihefjdabjmmaaaCellRHold
namespace Go.Proofs.Ytihefjdabjmmaaa.PD
open Go Go.RowKit Go.Proofs.YtihefjdabjmmaaaW.PrintWords Go.Proofs.YtihefjdabjmmaaaW.PrintLast Go.Proofs.YtihefjdabjmmaaaW.PrintMore
set_option linter.unusedVariables false
def rNext.f (at_ o3 : Int) (o7 : Bool) (q3 : Int) (q7 : Bool) : Int := if 0 ≤ at_ then 1 - at_ else if o7 = false then 0 else if q7 = false then 1 else if q3 < o3 then 1 else 0
theorem held_range (r1 r3 : Int) (r7 : Bool) (s1 s3 : Int) (s7 : Bool) (kind version : Int) : held_at.f r1 r3 r7 s1 s3 s7 kind version = 0 ∨ held_at.f r1 r3 r7 s1 s3 s7 kind version = 1 ∨ held_at.f r1 r3 r7 s1 s3 s7 kind version = -1 := by
  unfold held_at.f; split
  · exact .inl rfl
  · split
    · exact .inr (.inl rfl)
    · exact .inr (.inr rfl)
set_option maxHeartbeats 4000000 in
set_option maxRecDepth 100000 in
theorem rNext.calls (k : Nat) (a0 a1 a2 a3 : Int) (A0 : Option Addr) (c0 : Nat) (l0 : List Int) (A1 : Option Addr) (c1 : Nat) (l1 : List Int) (kind index version : Int)
    (r1 r2 r3 r4 : Int) (r5 r6 : List Int) (r7 : Bool) (o1 o2 o3 o4 : Int) (o5 o6 : List Int) (o7 : Bool) (s1 s2 s3 s4 : Int) (s5 s6 : List Int) (s7 : Bool) (q1 q2 q3 q4 : Int) (q5 q6 : List Int) (q7 : Bool) (w : World)
    (hr0 : Kd.C (Kd.int .u8) w A0 l0.length l0) (hc0 : l0.length ≤ c0) (hr1 : Kd.C (Kd.int .u8) w A1 l1.length l1) (hc1 : l1.length ≤ c1)
    (hd0 : twoslotref10_Read.f k a0 a1 a2 a3 l0 = some (r1, r2, r3, r4, r5, r6, r7)) (h0 : rOf.of r1 r2 r3 r4 r5 r6 r7 index = (o1, o2, o3, o4, o5, o6, o7))
    (hd1 : twoslotref10_Read.f k a0 a1 a2 a3 l1 = some (s1, s2, s3, s4, s5, s6, s7)) (h1 : rOf.of s1 s2 s3 s4 s5 s6 s7 index = (q1, q2, q3, q4, q5, q6, q7)) :
    Calls Try.prog 44 #[.agg #[.int .i64 a0, .int .i64 a1, .int .i64 a2, .int .i64 a3], .agg #[.slice A0 l0.length c0, .slice A1 l1.length c1], .int .u8 kind, .int .i64 index, .int .i64 version] w fun en w' =>
      en = .returned (.int .i64 (rNext.f (held_at.f o1 o3 o7 q1 q3 q7 kind version) o3 o7 q3 q7)) ∧ Below w.heap.size w w' := by
  have hu23 := Try.underlying23
  have hu27 := Try.underlying27
  have hu42 := Try.underlying42
  have HB := Lib.hid (Below.refl w.heap.size w)
  have HR0 := Lib.hid hr0
  have HC0 := Lib.hid hc0
  have HR1 := Lib.hid hr1
  have HC1 := Lib.hid hc1
  have HD0 := Lib.hid hd0
  have HD1 := Lib.hid hd1
  have HO0 := Lib.hid h0
  have HO1 := Lib.hid h1
  clear hr0 hr1 hc0 hc1 hd0 hd1 h0 h1
  go_enter Try.func44, Try.ntmps44
  go_upto_region 1 with (first | ((with_reducible refine gate_dst (N := 5) rfl ?_); refine box_event ?hg (N := 5) ?hd (cs := #[.int .i64 a0, .int .i64 a1, .int .i64 a2, .int .i64 a3]) (t := 23) ?hr ?_; (case hd => rfl); (case hg => rfl); (case hr => first | (go_simp; done) | (go_simp; rfl)); intro gb5 hg_ w1 bk_ hb_; have GE5 := Lib.hid (show w.heap.size ≤ gb5 by rw [hg_]; exact below_size HB.out); have BK5 := Lib.hid bk_; replace HB := Lib.hid (below_step HB.out hb_); clear hb_ hg_ bk_) | ((with_reducible refine gate_dst (N := 6) rfl ?_); refine box_event ?hg (N := 6) ?hd (cs := #[.slice A0 l0.length c0, .slice A1 l1.length c1]) (t := 42) ?hr ?_; (case hd => rfl); (case hg => rfl); (case hr => first | (go_simp; done) | (go_simp; rfl)); intro gb6 hg_ w2 bk_ hb_; have GE6 := Lib.hid (show w.heap.size ≤ gb6 by rw [hg_]; exact below_size HB.out); have NB5_6 := Lib.hid (show gb5 ≠ gb6 by rw [hg_]; exact Nat.ne_of_lt (blk_lt BK5.out)); have NB6_5 := Lib.hid NB5_6.out.symm; replace BK5 := Lib.hid (blk_below BK5.out hb_); have BK6 := Lib.hid bk_; replace HB := Lib.hid (below_step HB.out hb_); clear hb_ hg_ bk_))
  obtain ⟨pc0, pc1, pc2, pc3, pf0, pf1, pf2, pf3⟩ := cs4 BK5.out
  obtain ⟨qc0, qc1, qf0, qf1⟩ := cs2 BK6.out
  go_wp2_with fail
  clear pc0 pf0 pc1 pf1 pc2 pf2 pc3 pf3
  clear qc0 qf0 qc1 qf1
  refine (rHolds.calls k a0 a1 a2 a3 _ _ l0 _ _ l1 kind index version r1 r2 r3 r4 r5 r6 r7 o1 o2 o3 o4 o5 o6 o7 s1 s2 s3 s4 s5 s6 s7 q1 q2 q3 q4 q5 q6 q7 _ (Kd.C_below HR0.out HB.out) HC0.out (Kd.C_below HR1.out HB.out) HC1.out HD0.out HO0.out HD1.out HO1.out).mono ?_
  rintro en w3 ⟨rfl, hb⟩
  replace BK5 := Lib.hid (blk_below BK5.out hb)
  replace BK6 := Lib.hid (blk_below BK6.out hb)
  replace HB := Lib.hid (below_step HB.out hb)
  clear hb
  have hrg := held_range o1 o3 o7 q1 q3 q7 kind version
  rcases hrg with hat | hat | hat
  · rw [hat]
    have HAT := Lib.hid hat
    clear hat
    go_wp2_with fail
    go_ret
    exact ⟨by unfold rNext.f; rw [HAT.out, if_pos (by decide)] <;> rfl, HB.out⟩
  · rw [hat]
    have HAT := Lib.hid hat
    clear hat
    go_wp2_with fail
    go_ret
    exact ⟨by unfold rNext.f; rw [HAT.out, if_pos (by decide)] <;> rfl, HB.out⟩
  rw [hat]
  have HAT := Lib.hid hat
  clear hat
  have hi0 := tw_ia0 gb6
  have hi1 := tw_ia1 gb6
  obtain ⟨pc0, pc1, pc2, pc3, pf0, pf1, pf2, pf3⟩ := cs4 BK5.out
  obtain ⟨qc0, qc1, qf0, qf1⟩ := cs2 BK6.out
  go_wp2_with fail
  clear pc0 pf0 pc1 pf1 pc2 pf2 pc3 pf3
  clear qc0 qf0 qc1 qf1
  refine (rOf.calls k a0 a1 a2 a3 A0 c0 l0 index r1 r2 r3 r4 r5 r6 r7 o1 o2 o3 o4 o5 o6 o7 _ (Kd.C_below HR0.out HB.out) HC0.out HD0.out HO0.out).mono ?_
  rintro en w4 ⟨u4, u5, rfl, ho4, ho5, hb⟩
  obtain ⟨X4, x4, rfl⟩ := Kd.R_slice ho4
  obtain ⟨X5, x5, rfl⟩ := Kd.R_slice ho5
  clear ho4 ho5
  replace BK5 := Lib.hid (blk_below BK5.out hb)
  replace BK6 := Lib.hid (blk_below BK6.out hb)
  replace HB := Lib.hid (below_step HB.out hb)
  clear hb
  go_upto_region 5 with (first | ((with_reducible refine gate_dst (N := 12) rfl ?_); refine box_event ?hg (N := 12) ?hd (cs := #[.int .u8 0, .int .i64 0, .int .i64 0, .int .i64 0, .slice none 0 0, .slice none 0 0]) (t := 27) ?hr ?_; (case hd => rfl); (case hg => rfl); (case hr => first | (go_simp; done) | (go_simp; rfl)); intro gb12 hg_ w5 bk_ hb_; have GE12 := Lib.hid (show w.heap.size ≤ gb12 by rw [hg_]; exact below_size HB.out); have NB5_12 := Lib.hid (show gb5 ≠ gb12 by rw [hg_]; exact Nat.ne_of_lt (blk_lt BK5.out)); have NB12_5 := Lib.hid NB5_12.out.symm; replace BK5 := Lib.hid (blk_below BK5.out hb_); have NB6_12 := Lib.hid (show gb6 ≠ gb12 by rw [hg_]; exact Nat.ne_of_lt (blk_lt BK6.out)); have NB12_6 := Lib.hid NB6_12.out.symm; replace BK6 := Lib.hid (blk_below BK6.out hb_); have BK12 := Lib.hid bk_; replace HB := Lib.hid (below_step HB.out hb_); clear hb_ hg_ bk_; obtain ⟨zc0, zc1, zc2, zc3, zc4, zc5, zf0, zf1, zf2, zf3, zf4, zf5⟩ := cs6 BK12.out))
  clear zc0 zf0 zc1 zf1 zc2 zf2 zc3 zf3 zc4 zf4 zc5 zf5
  obtain ⟨hq1_, hq2_, hs_⟩ := st6_0_6 HB.out GE12.out BK12.out (.int .u8 o1) (.int .i64 o2) (.int .i64 o3) (.int .i64 o4) (.slice X4 o5.length x4) (.slice X5 o6.length x5)
  generalize ((((((w5.setCell ⟨gb12, 0, none⟩ (.int .u8 o1)).setCell ⟨gb12, 1, none⟩ (.int .i64 o2)).setCell ⟨gb12, 2, none⟩ (.int .i64 o3)).setCell ⟨gb12, 3, none⟩ (.int .i64 o4)).setCell ⟨gb12, 4, none⟩ (.slice X4 o5.length x4)).setCell ⟨gb12, 5, none⟩ (.slice X5 o6.length x5)) = w6 at hs_ hq1_ hq2_ ⊢
  replace BK5 := Lib.hid ((hs_ gb5 NB5_12.out).trans BK5.out)
  replace BK6 := Lib.hid ((hs_ gb6 NB6_12.out).trans BK6.out)
  replace BK12 := Lib.hid hq1_
  replace HB := Lib.hid hq2_
  clear hs_ hq1_ hq2_
  cases o7 with
  | false =>
    go_wp2_with fail
    go_ret
    exact ⟨by unfold rNext.f; rw [HAT.out, if_neg (by decide), if_pos rfl] <;> rfl, HB.out⟩
  | true =>
    obtain ⟨pc0, pc1, pc2, pc3, pf0, pf1, pf2, pf3⟩ := cs4 BK5.out
    obtain ⟨qc0, qc1, qf0, qf1⟩ := cs2 BK6.out
    go_wp2_with fail
    clear pc0 pf0 pc1 pf1 pc2 pf2 pc3 pf3
    clear qc0 qf0 qc1 qf1
    refine (rOf.calls k a0 a1 a2 a3 A1 c1 l1 index s1 s2 s3 s4 s5 s6 s7 q1 q2 q3 q4 q5 q6 q7 _ (Kd.C_below HR1.out HB.out) HC1.out HD1.out HO1.out).mono ?_
    rintro en w7 ⟨u4, u5, rfl, ho4, ho5, hb⟩
    obtain ⟨Y4, y4, rfl⟩ := Kd.R_slice ho4
    obtain ⟨Y5, y5, rfl⟩ := Kd.R_slice ho5
    clear ho4 ho5
    replace BK5 := Lib.hid (blk_below BK5.out hb)
    replace BK6 := Lib.hid (blk_below BK6.out hb)
    replace BK12 := Lib.hid (blk_below BK12.out hb)
    replace HB := Lib.hid (below_step HB.out hb)
    clear hb
    go_upto_region 8 with (first | ((with_reducible refine gate_dst (N := 14) rfl ?_); refine box_event ?hg (N := 14) ?hd (cs := #[.int .u8 0, .int .i64 0, .int .i64 0, .int .i64 0, .slice none 0 0, .slice none 0 0]) (t := 27) ?hr ?_; (case hd => rfl); (case hg => rfl); (case hr => first | (go_simp; done) | (go_simp; rfl)); intro gb14 hg_ w8 bk_ hb_; have GE14 := Lib.hid (show w.heap.size ≤ gb14 by rw [hg_]; exact below_size HB.out); have NB5_14 := Lib.hid (show gb5 ≠ gb14 by rw [hg_]; exact Nat.ne_of_lt (blk_lt BK5.out)); have NB14_5 := Lib.hid NB5_14.out.symm; replace BK5 := Lib.hid (blk_below BK5.out hb_); have NB6_14 := Lib.hid (show gb6 ≠ gb14 by rw [hg_]; exact Nat.ne_of_lt (blk_lt BK6.out)); have NB14_6 := Lib.hid NB6_14.out.symm; replace BK6 := Lib.hid (blk_below BK6.out hb_); have NB12_14 := Lib.hid (show gb12 ≠ gb14 by rw [hg_]; exact Nat.ne_of_lt (blk_lt BK12.out)); have NB14_12 := Lib.hid NB12_14.out.symm; replace BK12 := Lib.hid (blk_below BK12.out hb_); have BK14 := Lib.hid bk_; replace HB := Lib.hid (below_step HB.out hb_); clear hb_ hg_ bk_; obtain ⟨zc0, zc1, zc2, zc3, zc4, zc5, zf0, zf1, zf2, zf3, zf4, zf5⟩ := cs6 BK14.out))
    clear zc0 zf0 zc1 zf1 zc2 zf2 zc3 zf3 zc4 zf4 zc5 zf5
    obtain ⟨hq1_, hq2_, hs_⟩ := st6_0_6 HB.out GE14.out BK14.out (.int .u8 q1) (.int .i64 q2) (.int .i64 q3) (.int .i64 q4) (.slice Y4 q5.length y4) (.slice Y5 q6.length y5)
    generalize ((((((w8.setCell ⟨gb14, 0, none⟩ (.int .u8 q1)).setCell ⟨gb14, 1, none⟩ (.int .i64 q2)).setCell ⟨gb14, 2, none⟩ (.int .i64 q3)).setCell ⟨gb14, 3, none⟩ (.int .i64 q4)).setCell ⟨gb14, 4, none⟩ (.slice Y4 q5.length y4)).setCell ⟨gb14, 5, none⟩ (.slice Y5 q6.length y5)) = w9 at hs_ hq1_ hq2_ ⊢
    replace BK5 := Lib.hid ((hs_ gb5 NB5_14.out).trans BK5.out)
    replace BK6 := Lib.hid ((hs_ gb6 NB6_14.out).trans BK6.out)
    replace BK12 := Lib.hid ((hs_ gb12 NB12_14.out).trans BK12.out)
    replace BK14 := Lib.hid hq1_
    replace HB := Lib.hid hq2_
    clear hs_ hq1_ hq2_
    obtain ⟨xc0, xc1, xc2, xc3, xc4, xc5, xf0, xf1, xf2, xf3, xf4, xf5⟩ := cs6 BK12.out
    obtain ⟨yc0, yc1, yc2, yc3, yc4, yc5, yf0, yf1, yf2, yf3, yf4, yf5⟩ := cs6 BK14.out
    cases q7 with
    | false =>
      go_wp2_with fail
      go_ret
      exact ⟨by unfold rNext.f; rw [HAT.out, if_neg (by decide), if_neg (by decide), if_pos rfl] <;> rfl, HB.out⟩
    | true =>
      by_cases hl : q3 < o3
      · have hlb : decide (q3 < o3) = true := decide_eq_true hl
        replace hl := Lib.hid hl
        go_wp2_with fail
        go_ret
        exact ⟨by unfold rNext.f; rw [HAT.out, if_neg (by decide), if_neg (by decide), if_neg (by decide), if_pos hl.out] <;> rfl, HB.out⟩
      · have hlb : decide (q3 < o3) = false := decide_eq_false hl
        replace hl := Lib.hid hl
        go_wp2_with fail
        go_ret
        exact ⟨by unfold rNext.f; rw [HAT.out, if_neg (by decide), if_neg (by decide), if_neg (by decide), if_neg (by have := hl.out; omega)] <;> rfl, HB.out⟩
def rOlder.f (e : Int) (vr : Bool) (at_ o3 : Int) (o7 : Bool) (q3 : Int) (q7 : Bool) (keep : Int) : Int × Int := if e ≠ 0 then (0, e) else if keep ≠ 0 ∧ vr = false then (0, 2) else (rNext.f at_ o3 o7 q3 q7, 0)
set_option maxHeartbeats 4000000 in
set_option maxRecDepth 100000 in
theorem rOlder.calls (k : Nat) (a0 a1 a2 a3 : Int) (A0 : Option Addr) (c0 : Nat) (l0 : List Int) (A1 : Option Addr) (c1 : Nat) (l1 : List Int) (kind index version : Int)
    (r1 r2 r3 r4 : Int) (r5 r6 : List Int) (r7 : Bool) (o1 o2 o3 o4 : Int) (o5 o6 : List Int) (o7 : Bool) (s1 s2 s3 s4 : Int) (s5 s6 : List Int) (s7 : Bool) (q1 q2 q3 q4 : Int) (q5 q6 : List Int) (q7 : Bool) (m : Bool) (sz nn : Int) (vr : Bool) (e t te : Int) (w : World)
    (hr0 : Kd.C (Kd.int .u8) w A0 l0.length l0) (hc0 : l0.length ≤ c0) (hr1 : Kd.C (Kd.int .u8) w A1 l1.length l1) (hc1 : l1.length ≤ c1)
    (hm : twoslotref06_May.f a0 a1 a2 a3 = some m) (hs : twoslotref06_Size.f a0 a1 a2 a3 = some sz) (hn : twoslotref06_N.f a0 a1 a2 a3 = some nn) (he : rAsked.f m sz nn l0 l1 kind index = e) (hv : twoslotref10_Version.f version = some vr)
    (hd : e = 0 → twoslotref10_Read.f k a0 a1 a2 a3 l0 = some (r1, r2, r3, r4, r5, r6, r7) ∧ twoslotref10_Read.f k a0 a1 a2 a3 l1 = some (s1, s2, s3, s4, s5, s6, s7)) (h0 : rOf.of r1 r2 r3 r4 r5 r6 r7 index = (o1, o2, o3, o4, o5, o6, o7)) (h1 : rOf.of s1 s2 s3 s4 s5 s6 s7 index = (q1, q2, q3, q4, q5, q6, q7))
    (h : rOlder.f e vr (held_at.f o1 o3 o7 q1 q3 q7 kind version) o3 o7 q3 q7 version = (t, te)) :
    Calls Try.prog 27 #[.agg #[.int .i64 a0, .int .i64 a1, .int .i64 a2, .int .i64 a3], .agg #[.slice A0 l0.length c0, .slice A1 l1.length c1], .int .u8 kind, .int .i64 index, .int .i64 version] w fun en w' =>
      en = .returned (.tuple #[.int .i64 t, .int .i64 te]) ∧ Below w.heap.size w w' := by
  have hu23 := Try.underlying23
  have hu27 := Try.underlying27
  have hu42 := Try.underlying42
  have HB := Lib.hid (Below.refl w.heap.size w)
  have HR0 := Lib.hid hr0
  have HR1 := Lib.hid hr1
  have HC0 := Lib.hid hc0
  have HC1 := Lib.hid hc1
  have HM := Lib.hid hm
  have HS := Lib.hid hs
  have HN := Lib.hid hn
  have HE := Lib.hid he
  have HV := Lib.hid hv
  have HD := Lib.hid hd
  have HO0 := Lib.hid h0
  have HO1 := Lib.hid h1
  have H := Lib.hid h
  clear hr0 hr1 hc0 hc1 hm hs hn he hv hd h0 h1 h
  go_enter Try.func27, Try.ntmps27
  go_upto_region 1 with (first | ((with_reducible refine gate_dst (N := 5) rfl ?_); refine box_event ?hg (N := 5) ?hd (cs := #[.int .i64 a0, .int .i64 a1, .int .i64 a2, .int .i64 a3]) (t := 23) ?hr ?_; (case hd => rfl); (case hg => rfl); (case hr => first | (go_simp; done) | (go_simp; rfl)); intro gb5 hg_ w1 bk_ hb_; have GE5 := Lib.hid (show w.heap.size ≤ gb5 by rw [hg_]; exact below_size HB.out); have BK5 := Lib.hid bk_; replace HB := Lib.hid (below_step HB.out hb_); clear hb_ hg_ bk_) | ((with_reducible refine gate_dst (N := 6) rfl ?_); refine box_event ?hg (N := 6) ?hd (cs := #[.slice A0 l0.length c0, .slice A1 l1.length c1]) (t := 42) ?hr ?_; (case hd => rfl); (case hg => rfl); (case hr => first | (go_simp; done) | (go_simp; rfl)); intro gb6 hg_ w2 bk_ hb_; have GE6 := Lib.hid (show w.heap.size ≤ gb6 by rw [hg_]; exact below_size HB.out); have NB5_6 := Lib.hid (show gb5 ≠ gb6 by rw [hg_]; exact Nat.ne_of_lt (blk_lt BK5.out)); have NB6_5 := Lib.hid NB5_6.out.symm; replace BK5 := Lib.hid (blk_below BK5.out hb_); have BK6 := Lib.hid bk_; replace HB := Lib.hid (below_step HB.out hb_); clear hb_ hg_ bk_))
  obtain ⟨pc0, pc1, pc2, pc3, pf0, pf1, pf2, pf3⟩ := cs4 BK5.out
  obtain ⟨qc0, qc1, qf0, qf1⟩ := cs2 BK6.out
  go_wp2_with fail
  clear pc0 pf0 pc1 pf1 pc2 pf2 pc3 pf3
  clear qc0 qf0 qc1 qf1
  refine (rAsked.calls a0 a1 a2 a3 A0 c0 l0 A1 c1 l1 kind index m sz nn _ HM.out HS.out HN.out).mono ?_
  rintro en w3 ⟨rfl, hb⟩
  rw [HE.out]
  replace BK5 := Lib.hid (blk_below BK5.out hb)
  replace BK6 := Lib.hid (blk_below BK6.out hb)
  replace HB := Lib.hid (below_step HB.out hb)
  clear hb
  by_cases hez : e = 0
  case neg =>
    have hb1 : (e == 0) = false := beq_eq_false_iff_ne.mpr hez
    have hb2 : (e != 0) = true := bne_iff_ne.mpr hez
    replace hez := Lib.hid hez
    go_wp2_with fail
    have h := H.out
    unfold rOlder.f at h
    rw [if_pos hez.out] at h
    simp only [Prod.mk.injEq] at h
    obtain ⟨rfl, rfl⟩ := h
    go_ret2
    exact ⟨rfl, HB.out⟩
  subst hez
  obtain ⟨hd0, hd1⟩ := HD.out rfl
  have HD0 := Lib.hid hd0
  have HD1 := Lib.hid hd1
  clear hd0 hd1 HD
  by_cases hk : version = 0
  case pos =>
    have hkb : (version != 0) = false := bne_eq_false_iff_eq.mpr hk
    replace hk := Lib.hid hk
    obtain ⟨pc0, pc1, pc2, pc3, pf0, pf1, pf2, pf3⟩ := cs4 BK5.out
    obtain ⟨qc0, qc1, qf0, qf1⟩ := cs2 BK6.out
    go_wp2_with fail
    clear pc0 pf0 pc1 pf1 pc2 pf2 pc3 pf3
    clear qc0 qf0 qc1 qf1
    refine (rNext.calls k a0 a1 a2 a3 _ _ l0 _ _ l1 kind index version r1 r2 r3 r4 r5 r6 r7 o1 o2 o3 o4 o5 o6 o7 s1 s2 s3 s4 s5 s6 s7 q1 q2 q3 q4 q5 q6 q7 _ (Kd.C_below HR0.out HB.out) HC0.out (Kd.C_below HR1.out HB.out) HC1.out HD0.out HO0.out HD1.out HO1.out).mono ?_
    rintro en w5 ⟨rfl, hb⟩
    replace BK5 := Lib.hid (blk_below BK5.out hb)
    replace BK6 := Lib.hid (blk_below BK6.out hb)
    replace HB := Lib.hid (below_step HB.out hb)
    clear hb
    go_wp2_with fail
    have h := H.out
    unfold rOlder.f at h
    rw [if_neg (fun z => z rfl), if_neg (fun z => z.1 hk.out)] at h
    simp only [Prod.mk.injEq] at h
    obtain ⟨rfl, rfl⟩ := h
    go_ret2
    exact ⟨rfl, HB.out⟩
  have hkb : (version != 0) = true := bne_iff_ne.mpr hk
  replace hk := Lib.hid hk
  go_wp2_with fail
  refine (twoslotref10_Version.calls version vr _ HV.out).mono ?_
  rintro en w4 ⟨rfl, hd_⟩
  have hb := hd_.below
  clear hd_
  replace BK5 := Lib.hid (blk_below BK5.out hb)
  replace BK6 := Lib.hid (blk_below BK6.out hb)
  replace HB := Lib.hid (below_step HB.out hb)
  clear hb
  cases vr with
  | false =>
    go_wp2_with fail
    have h := H.out
    unfold rOlder.f at h
    rw [if_neg (fun z => z rfl), if_pos ⟨hk.out, rfl⟩] at h
    simp only [Prod.mk.injEq] at h
    obtain ⟨rfl, rfl⟩ := h
    go_ret2
    exact ⟨rfl, HB.out⟩
  | true =>
    obtain ⟨pc0, pc1, pc2, pc3, pf0, pf1, pf2, pf3⟩ := cs4 BK5.out
    obtain ⟨qc0, qc1, qf0, qf1⟩ := cs2 BK6.out
    go_wp2_with fail
    clear pc0 pf0 pc1 pf1 pc2 pf2 pc3 pf3
    clear qc0 qf0 qc1 qf1
    refine (rNext.calls k a0 a1 a2 a3 _ _ l0 _ _ l1 kind index version r1 r2 r3 r4 r5 r6 r7 o1 o2 o3 o4 o5 o6 o7 s1 s2 s3 s4 s5 s6 s7 q1 q2 q3 q4 q5 q6 q7 _ (Kd.C_below HR0.out HB.out) HC0.out (Kd.C_below HR1.out HB.out) HC1.out HD0.out HO0.out HD1.out HO1.out).mono ?_
    rintro en w5 ⟨rfl, hb⟩
    replace BK5 := Lib.hid (blk_below BK5.out hb)
    replace BK6 := Lib.hid (blk_below BK6.out hb)
    replace HB := Lib.hid (below_step HB.out hb)
    clear hb
    go_wp2_with fail
    have h := H.out
    unfold rOlder.f at h
    rw [if_neg (fun z => z rfl), if_neg (fun z => Bool.noConfusion z.2)] at h
    simp only [Prod.mk.injEq] at h
    obtain ⟨rfl, rfl⟩ := h
    go_ret2
    exact ⟨rfl, HB.out⟩
end Go.Proofs.Ytihefjdabjmmaaa.PD
