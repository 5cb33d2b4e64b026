/- Which slot of a cell holds a version, and which is written next, is the document's: for every input. No condition. -/
import Derived.Test.YtihefjdabjmmaaaCellLawS
import Derived.Test.YtihefjdabjmmaaaCellPlainS
import Derived.Test.YtihefjdabjmmaaaCellPlainK
import Derived.Test.YtihefjdabjmmaaaSlotRa
import Derived.Test.YtihefjdabjmmaaaOpenA
import Derived.Test.YtihefjdabjmmaaaRows
import Derived.Test.YtihefjdabjmmaaaOpen
import Derived.Test.YtihefjdabjmmaaaWSized
import Derived.Test.YtihefjdabjmmaaaPDx0
import Derived.WalkKit
import Derived.ProofKit
import Derived.OpenShut
import Derived.ShutString
import Derived.ChangeOld
import Derived.Below
import Derived.SizedLaws
-- written by the session's own program (wip/prt.py) over the kit's print: not print.sh's own text
namespace Go.Proofs.Ytihefjdabjmmaaa.cellSlots
open Go.ChangeShapes Go.WideShapes Go.ChangeAt Go.RowKit Go.Proofs.Ytihefjdabjmmaaa.PD Go.Proofs.YtihefjdabjmmaaaW.PrintWords Go.Proofs.YtihefjdabjmmaaaW.PrintLast
open Go.ChangeMaps (open_string shut_string)
set_option linter.unusedVariables false
theorem okWide_array2 {P : Program} {w : World} {r : Reach} {base : Nat} {t : TypeId} {v : Value} {n : Nat} {e : TypeId} (ht : P.underlying t = some (.array n e)) (h : Value.okWide P w r base t v) : ∃ cs, v = .agg cs ∧ cs.size = P.cellsOf t := by
  simp only [Value.okWide, ht] at h
  obtain ⟨cs, h1, h2, _⟩ := h
  exact ⟨cs, h1, h2⟩
theorem own : ownKnob Try.prog.godebug = none := by kernel_rfl
theorem laidOut : laidOutB Try.prog = true := by kernel_rfl
set_option maxRecDepth 100000 in
theorem lifted (os : Os) (started : os.Started) (H : Type) (enc : TypeId × Value → H) :
    ReturnsInHanded {} Try.checked os 7 .any (Rows.cellSlotsSpec.pre6 enc Try.prog Try.f7 Rows.cellSlotsRow.domain false) (Rows.cellSlotsSpec.post enc Try.prog Try.f7 false true false false) := by
  refine returnsInHanded_of_change_sized (C := Try.checked) own started (by kernel_rfl) Try.func7
    (ChangeSpec.witness6 (enc := enc) (C := Try.checked) false ⟨#[], #[.agg #[.int .i64 0, .int .i64 0, .int .i64 0, .int .i64 0], .agg #[.slice none 0 0, .slice none 0 0], .int .u8 0, .int .i64 0, .int .i64 0], []⟩ 8 (by kernel_rfl) (by kernel_rfl) (by kernel_rfl) (by kernel_rfl)) ?_
  intro W base args ds gs before hval0 hW hcnd hsz0 _
  have hsz : (DataW.weightsEach Try.prog (Try.f7.params.toList ++ Rows.cellSlotsSpec.plain.varTypes Try.prog) (ds ++ gs)).all (· ≤ reachBytes) = true := hsz0
  have hval : ∀ (j : Nat) t v, Try.f7.params[j]? = some t → args[j]? = some v → Value.okWide Try.prog W .any base t v := hval0
  have hW' := hW
  obtain ⟨p, q, hA0, hV, rfl, hfz, hnd⟩ := hW
  have hA : DataW.TrodAll enc Try.prog W 0 (fun _ => true) true Try.f7.params.toList args.toList ds p := hA0
  rw [Try.params7] at hA hval hsz
  obtain ⟨v0, vs0, d0, ds0, p0, q0, hargs, rfl, rfl, h0, r0⟩ := trodAll_cons hA
  obtain ⟨v1, vs1, d1, ds1, p1, q1, rfl, rfl, rfl, h1, r1⟩ := trodAll_cons r0
  obtain ⟨v2, vs2, d2, ds2, p2, q2, rfl, rfl, rfl, h2, r2⟩ := trodAll_cons r1
  obtain ⟨v3, vs3, d3, ds3, p3, q3, rfl, rfl, rfl, h3, r3⟩ := trodAll_cons r2
  obtain ⟨v4, vs4, d4, ds4, p4, q4, rfl, rfl, rfl, h4, r4⟩ := trodAll_cons r3
  obtain ⟨rfl, rfl, rfl⟩ := trodAll_nil r4
  obtain rfl : args = #[v0, v1, v2, v3, v4] := by cases args; simp_all
  obtain ⟨rfl, rfl⟩ := trodVars_none hV
  have k0 := h0
  obtain ⟨cs0, rfl, -⟩ := okWide_struct Try.underlying23 (hval 0 23 v0 rfl rfl)
  have lt0 : ∀ x ∈ p0, x.block < W.heap.size := by obtain ⟨m, hm⟩ := k0; exact DataW.trod_lt m _ _ _ hm
  obtain ⟨x0, K0, G0⟩ := opens_arg (j := 0) (d := (Kd.pair (Kd.int .i64) (Kd.pair (Kd.int .i64) (Kd.pair (Kd.int .i64) (Kd.int .i64))))) (opens_struct Try.underlying23 (by kernel_rfl) (opensF_cons rfl (opens_int Try.underlying3 (by kernel_rfl)) (opensF_cons rfl (opens_int Try.underlying3 (by kernel_rfl)) (opensF_cons rfl (opens_int Try.underlying3 (by kernel_rfl)) (opensF_one rfl (opens_int Try.underlying3 (by kernel_rfl))))))) hsz rfl rfl h0
  obtain ⟨a0_0, a0_1, a0_2, a0_3⟩ := x0
  obtain ⟨g0_0, g0_1, g0_2, g0_3⟩ := G0
  obtain ⟨cs0⟩ := cs0
  have K0 : ((Kd.pair (Kd.int .i64) (Kd.pair (Kd.int .i64) (Kd.pair (Kd.int .i64) (Kd.int .i64))))).K W _ cs0 := K0
  obtain ⟨x100a, x100b, e0, kk100a, kk100b⟩ := K0
  obtain rfl := kk100a
  obtain ⟨x101a, x101b, rfl, kk101a, kk101b⟩ := kk100b
  obtain rfl := kk101a
  obtain ⟨x102a, x102b, rfl, kk102a, kk102b⟩ := kk101b
  obtain rfl := kk102a
  obtain rfl := kk102b
  subst e0
  have k1 := h1
  obtain ⟨cs1, rfl, -⟩ := okWide_array2 Try.underlying42 (hval 1 42 v1 rfl rfl)
  have lt1 : ∀ x ∈ p1, x.block < W.heap.size := by obtain ⟨m, hm⟩ := k1; exact DataW.trod_lt m _ _ _ hm
  obtain ⟨x1, K1, G1⟩ := opens_arg (j := 1) (d := (Kd.pair (Kd.slice 5 (Kd.int .u8)) (Kd.slice 5 (Kd.int .u8)))) (opens_array2 Try.underlying42 (by kernel_rfl) (opens_slice Try.underlying25 (by kernel_rfl) (B := 1) (by kernel_rfl) (opens_int Try.underlying5 (by kernel_rfl)))) hsz rfl rfl h1
  obtain ⟨l1, l2⟩ := x1
  obtain ⟨g1, g2⟩ := G1
  obtain ⟨cs1⟩ := cs1
  have K1 : ((Kd.pair (Kd.slice 5 (Kd.int .u8)) (Kd.slice 5 (Kd.int .u8)))).K W _ cs1 := K1
  obtain ⟨z0, z1, e1, kz0, kz1⟩ := K1
  obtain ⟨A1, c1, rfl, hc1, hr1⟩ := kz0
  obtain ⟨A2, c2, rfl, hc2, hr2⟩ := kz1
  subst e1
  have k2 := h2
  obtain ⟨a2, rfl⟩ := okWide_int Try.underlying5 (hval 2 5 v2 rfl rfl)
  have lt2 : ∀ x ∈ p2, x.block < W.heap.size := by obtain ⟨m, hm⟩ := k2; exact DataW.trod_lt m _ _ _ hm
  have k3 := h3
  obtain ⟨a3, rfl⟩ := okWide_int Try.underlying3 (hval 3 3 v3 rfl rfl)
  have lt3 : ∀ x ∈ p3, x.block < W.heap.size := by obtain ⟨m, hm⟩ := k3; exact DataW.trod_lt m _ _ _ hm
  have k4 := h4
  obtain ⟨a4, rfl⟩ := okWide_int Try.underlying3 (hval 4 3 v4 rfl rfl)
  have lt4 : ∀ x ∈ p4, x.block < W.heap.size := by obtain ⟨m, hm⟩ := k4; exact DataW.trod_lt m _ _ _ hm
  clear hA0 hval0 hsz0 hsz
  obtain ⟨m, sz, nn, vr, e', r1, r2, r3, r4, r5, r6, r7, o1, o2, o3, o4, o5, o6, o7, s1, s2, s3, s4, s5, s6, s7, q1, q2, q3, q4, q5, q6, q7, n, t1, t2, t3, t4, t5, t6, t7, te, g, u1, u2, u3, u4, u5, u6, u7, ue, x, xe, ⟨hm, hs, hn, he, hv⟩, hd, h0, hq, ⟨hF, hRF, hS1⟩, ⟨hN, hRN, hS2⟩, hO, hRO⟩ := Pure.slots_plain (k := 200) (Nat.le_refl _) a0_0 a0_1 a0_2 a0_3 (Pure.isB_wf g1.2.2) (Pure.isB_wf g2.2.2) a2 a3 a4
  obtain ⟨w1, w2⟩ := Pure.awake_plain (k := 200) (Nat.le_refl _)
  refine (PD.cell_law_Slots.calls 200 a0_0 a0_1 a0_2 a0_3 A1 c1 l1 A2 c2 l2 a2 a3 a4 m sz nn vr e' r1 r2 r3 r4 r5 r6 r7 o1 o2 o3 o4 o5 o6 o7 s1 s2 s3 s4 s5 s6 s7 q1 q2 q3 q4 q5 q6 q7 n t1 t2 t3 t4 t5 t6 t7 te g u1 u2 u3 u4 u5 u6 u7 ue x xe W hr1 hc1 hr2 hc2 w1 w2 (Pure.kb_str (Pure.isB_wf g1.2.2)) (Pure.kb_str (Pure.isB_wf g2.2.2)) (Pure.kb_size' (Pure.isB_wf g1.2.2) (by have z : l1.length * 1 ≤ 140737488351232 := g1.2.1; omega)) (Pure.kb_size' (Pure.isB_wf g2.2.2) (by have z : l2.length * 1 ≤ 140737488351232 := g2.2.1; omega)) hm hs hn he hv hd h0 hq hF hRF hS1 hN hRN hS2 hO hRO).mono fun e W' he => ?_
  obtain ⟨rfl, hd⟩ := he
  have bel : Below W.heap.size W W' := hd
  exact ⟨_, rfl, _, _, _, [], _, [], hW', trodAll_mk1 (shut_bool Try.underlying4 _), (trodAll_cons_mk (Below.trod laidOut (by kernel_rfl) (of_decide_eq_true (by kernel_rfl)) k0 bel lt0) (trodAll_cons_mk (Below.trod laidOut (by kernel_rfl) (of_decide_eq_true (by kernel_rfl)) k1 bel lt1) (trodAll_cons_mk (Below.trod laidOut (by kernel_rfl) (of_decide_eq_true (by kernel_rfl)) k2 bel lt2) (trodAll_cons_mk (Below.trod laidOut (by kernel_rfl) (of_decide_eq_true (by kernel_rfl)) k3 bel lt3) (trodAll_cons_mk (Below.trod laidOut (by kernel_rfl) (of_decide_eq_true (by kernel_rfl)) k4 bel lt4) trodAll_mk0))))), rfl, bel.frame _, fun h => by cases h⟩
theorem over : Rows.cellSlotsRow.holds Try.pinned (OpenSpec.ofChange Rows.cellSlotsSpec) :=
  OpenClaim.holds_of_wide 7 Try.f7 rfl rfl rfl rfl rfl rfl rfl ⟨rfl, rfl, rfl, rfl, rfl⟩ rfl rfl rfl rfl rfl (by kernel_rfl) Try.func7 (by kernel_rfl)
    (of_decide_eq_true (by kernel_rfl)) (by unfold Func.isWrapper; first | (rw [if_pos (by decide +kernel)]; kernel_rfl) | (rw [if_neg (by decide +kernel)]; exact ⟨rfl, rfl⟩))
    (fun os started H enc _ => lifted os started H enc)
theorem proved : Rows.CellSlotsSaid := over
#print axioms proved
end Go.Proofs.Ytihefjdabjmmaaa.cellSlots
namespace Go.Proofs.Ytihefjdabjmmaaa
/-- The row, under a short name, for the claim. -/
theorem cellSlots_holds : Rows.CellSlotsSaid := cellSlots.proved
end Go.Proofs.Ytihefjdabjmmaaa
