/- A new version never overwrites the version that is to be kept: for every input. No condition. -/
-- written by the session's own program (wip/prt.py) over the kit's print: not print.sh's own text
import Derived.Test.YtihefjdabjmmaaaRows
import Derived.Test.YtihefjdabjmmaaaCellLawK
import Derived.Test.YtihefjdabjmmaaaOpen
import Derived.Test.YtihefjdabjmmaaaCellPlainK
import Derived.Test.YtihefjdabjmmaaaOpenA
import Derived.WalkKit
import Derived.ProofKit
import Derived.OpenShut
import Derived.ShutString
import Derived.ChangeOld
import Derived.Below
import Derived.SizedLaws
import Derived.Test.YtihefjdabjmmaaaWSized
namespace Go.Proofs.Ytihefjdabjmmaaa.cellKept
open Go.ChangeShapes Go.WideShapes Go.ChangeAt Go.RowKit Go.Proofs.Ytihefjdabjmmaaa.PD Go.Proofs.YtihefjdabjmmaaaW.PrintWords Go.Proofs.YtihefjdabjmmaaaW.PrintLast
open Go.ChangeMaps (open_string shut_string)
set_option linter.unusedVariables false
theorem okWide_array2 {P : Program} {w : World} {r : Reach} {base : Nat} {t : TypeId} {v : Value} {n : Nat} {e : TypeId} (ht : P.underlying t = some (.array n e)) (h : Value.okWide P w r base t v) : ∃ cs, v = .agg cs ∧ cs.size = P.cellsOf t := by
  simp only [Value.okWide, ht] at h
  obtain ⟨cs, h1, h2, _⟩ := h
  exact ⟨cs, h1, h2⟩
theorem own : ownKnob Try.prog.godebug = none := by kernel_rfl
theorem laidOut : laidOutB Try.prog = true := by kernel_rfl
set_option maxRecDepth 100000 in
theorem lifted (os : Os) (started : os.Started) (H : Type) (enc : TypeId × Value → H) :
    ReturnsInHanded {} Try.checked os 9 .any (Rows.cellKeptSpec.pre6 enc Try.prog Try.f9 Rows.cellKeptRow.domain false) (Rows.cellKeptSpec.post enc Try.prog Try.f9 false true false false) := by
  refine returnsInHanded_of_change_sized (C := Try.checked) own started (by kernel_rfl) Try.func9
    (ChangeSpec.witness6 (enc := enc) (C := Try.checked) false ⟨#[], #[.agg #[.int .i64 0, .int .i64 0, .int .i64 0, .int .i64 0], .agg #[.slice none 0 0, .slice none 0 0], .int .i64 0, .agg #[.int .u8 0, .int .i64 0, .int .i64 0, .int .i64 0, .slice none 0 0, .slice none 0 0]], []⟩ 8 (by kernel_rfl) (by kernel_rfl) (by kernel_rfl) (by kernel_rfl)) ?_
  intro W base args ds gs before hval0 hW hcnd hsz0 _
  have hsz : (DataW.weightsEach Try.prog (Try.f9.params.toList ++ Rows.cellKeptSpec.plain.varTypes Try.prog) (ds ++ gs)).all (· ≤ reachBytes) = true := hsz0
  have hval : ∀ (j : Nat) t v, Try.f9.params[j]? = some t → args[j]? = some v → Value.okWide Try.prog W .any base t v := hval0
  have hW' := hW
  obtain ⟨p, q, hA0, hV, rfl, hfz, hnd⟩ := hW
  have hA : DataW.TrodAll enc Try.prog W 0 (fun _ => true) true Try.f9.params.toList args.toList ds p := hA0
  rw [Try.params9] at hA hval hsz
  obtain ⟨v0, vs0, d0, ds0, p0, q0, hargs, rfl, rfl, h0, r0⟩ := trodAll_cons hA
  obtain ⟨v1, vs1, d1, ds1, p1, q1, rfl, rfl, rfl, h1, r1⟩ := trodAll_cons r0
  obtain ⟨v2, vs2, d2, ds2, p2, q2, rfl, rfl, rfl, h2, r2⟩ := trodAll_cons r1
  obtain ⟨v3, vs3, d3, ds3, p3, q3, rfl, rfl, rfl, h3, r3⟩ := trodAll_cons r2
  obtain ⟨rfl, rfl, rfl⟩ := trodAll_nil r3
  obtain rfl : args = #[v0, v1, v2, v3] := by cases args; simp_all
  obtain ⟨rfl, rfl⟩ := trodVars_none hV
  have k0 := h0
  obtain ⟨cs0, rfl, -⟩ := okWide_struct Try.underlying23 (hval 0 23 v0 rfl rfl)
  have lt0 : ∀ x ∈ p0, x.block < W.heap.size := by obtain ⟨m, hm⟩ := k0; exact DataW.trod_lt m _ _ _ hm
  obtain ⟨x0, K0, G0⟩ := opens_arg (j := 0) (d := (Kd.pair (Kd.int .i64) (Kd.pair (Kd.int .i64) (Kd.pair (Kd.int .i64) (Kd.int .i64))))) (opens_struct Try.underlying23 (by kernel_rfl) (opensF_cons rfl (opens_int Try.underlying3 (by kernel_rfl)) (opensF_cons rfl (opens_int Try.underlying3 (by kernel_rfl)) (opensF_cons rfl (opens_int Try.underlying3 (by kernel_rfl)) (opensF_one rfl (opens_int Try.underlying3 (by kernel_rfl))))))) hsz rfl rfl h0
  obtain ⟨a0_0, a0_1, a0_2, a0_3⟩ := x0
  obtain ⟨g0_0, g0_1, g0_2, g0_3⟩ := G0
  obtain ⟨cs0⟩ := cs0
  have K0 : ((Kd.pair (Kd.int .i64) (Kd.pair (Kd.int .i64) (Kd.pair (Kd.int .i64) (Kd.int .i64))))).K W _ cs0 := K0
  obtain ⟨x100a, x100b, e0, kk100a, kk100b⟩ := K0
  obtain rfl := kk100a
  obtain ⟨x101a, x101b, rfl, kk101a, kk101b⟩ := kk100b
  obtain rfl := kk101a
  obtain ⟨x102a, x102b, rfl, kk102a, kk102b⟩ := kk101b
  obtain rfl := kk102a
  obtain rfl := kk102b
  subst e0
  have k1 := h1
  obtain ⟨cs1, rfl, -⟩ := okWide_array2 Try.underlying42 (hval 1 42 v1 rfl rfl)
  have lt1 : ∀ x ∈ p1, x.block < W.heap.size := by obtain ⟨m, hm⟩ := k1; exact DataW.trod_lt m _ _ _ hm
  obtain ⟨x1, K1, G1⟩ := opens_arg (j := 1) (d := (Kd.pair (Kd.slice 5 (Kd.int .u8)) (Kd.slice 5 (Kd.int .u8)))) (opens_array2 Try.underlying42 (by kernel_rfl) (opens_slice Try.underlying25 (by kernel_rfl) (B := 1) (by kernel_rfl) (opens_int Try.underlying5 (by kernel_rfl)))) hsz rfl rfl h1
  obtain ⟨l1, l2⟩ := x1
  obtain ⟨g1, g2⟩ := G1
  obtain ⟨cs1⟩ := cs1
  have K1 : ((Kd.pair (Kd.slice 5 (Kd.int .u8)) (Kd.slice 5 (Kd.int .u8)))).K W _ cs1 := K1
  obtain ⟨z0, z1, e1, kz0, kz1⟩ := K1
  obtain ⟨A1, c1, rfl, hc1, hr1⟩ := kz0
  obtain ⟨A2, c2, rfl, hc2, hr2⟩ := kz1
  subst e1
  have k2 := h2
  obtain ⟨a2, rfl⟩ := okWide_int Try.underlying3 (hval 2 3 v2 rfl rfl)
  have lt2 : ∀ x ∈ p2, x.block < W.heap.size := by obtain ⟨m, hm⟩ := k2; exact DataW.trod_lt m _ _ _ hm
  have k3 := h3
  obtain ⟨cs3, rfl, -⟩ := okWide_struct Try.underlying27 (hval 3 27 v3 rfl rfl)
  have lt3 : ∀ x ∈ p3, x.block < W.heap.size := by obtain ⟨m, hm⟩ := k3; exact DataW.trod_lt m _ _ _ hm
  obtain ⟨x3, K3, G3⟩ := opens_arg (j := 3) (d := (Kd.pair (Kd.int .u8) (Kd.pair (Kd.int .i64) (Kd.pair (Kd.int .i64) (Kd.pair (Kd.int .i64) (Kd.pair (Kd.slice 3 (Kd.int .i64)) (Kd.slice 5 (Kd.int .u8)))))))) (opens_struct Try.underlying27 (by kernel_rfl) (opensF_cons rfl (opens_int Try.underlying5 (by kernel_rfl)) (opensF_cons rfl (opens_int Try.underlying3 (by kernel_rfl)) (opensF_cons rfl (opens_int Try.underlying3 (by kernel_rfl)) (opensF_cons rfl (opens_int Try.underlying3 (by kernel_rfl)) (opensF_cons rfl (opens_slice Try.underlying24 (by kernel_rfl) (B := 8) (by kernel_rfl) (opens_int Try.underlying3 (by kernel_rfl))) (opensF_one rfl (opens_slice Try.underlying25 (by kernel_rfl) (B := 1) (by kernel_rfl) (opens_int Try.underlying5 (by kernel_rfl)))))))))) hsz rfl rfl h3
  obtain ⟨a1_0, a1_1, a1_2, a1_3, l1_4, l1_5⟩ := x3
  obtain ⟨g1_0, g1_1, g1_2, g1_3, g1_4, g1_5⟩ := G3
  obtain ⟨cs3⟩ := cs3
  have K3 : ((Kd.pair (Kd.int .u8) (Kd.pair (Kd.int .i64) (Kd.pair (Kd.int .i64) (Kd.pair (Kd.int .i64) (Kd.pair (Kd.slice 3 (Kd.int .i64)) (Kd.slice 5 (Kd.int .u8)))))))).K W _ cs3 := K3
  obtain ⟨x200a, x200b, e3, kk200a, kk200b⟩ := K3
  obtain rfl := kk200a
  obtain ⟨x201a, x201b, rfl, kk201a, kk201b⟩ := kk200b
  obtain rfl := kk201a
  obtain ⟨x202a, x202b, rfl, kk202a, kk202b⟩ := kk201b
  obtain rfl := kk202a
  obtain ⟨x203a, x203b, rfl, kk203a, kk203b⟩ := kk202b
  obtain rfl := kk203a
  obtain ⟨x204a, x204b, rfl, kk204a, kk204b⟩ := kk203b
  obtain ⟨A1_4, c1_4, rfl, hc1_4, hr1_4⟩ := kk204a
  obtain ⟨A1_5, c1_5, rfl, hc1_5, hr1_5⟩ := kk204b
  subst e3
  clear hA0 hval0 hsz0 hsz
  obtain ⟨bl, be, n, f, m, t1, t2, t4, t5, t6, o, u1, u2, u3, u4, u5, u6, u7, q, v1, v2, v3, v4, v5, v6, v7, hBy, hO, q0, q1, q2, q3, q4⟩ := Pure.kept_plain (k := 200) (Nat.le_refl _) a0_0 a0_1 a0_2 a0_3 (Pure.isB_wf g1.2.2) (Pure.isB_wf g2.2.2) a2 a1_0 a1_1 a1_2 a1_3 l1_4 (Pure.isB_wf g1_5.2.2)
  obtain ⟨w1, w2⟩ := Pure.awake_plain (k := 200) (Nat.le_refl _)
  refine (PD.cell_law_Kept.calls 200 a0_0 a0_1 a0_2 a0_3 A1 c1 l1 A2 c2 l2 a2 a1_0 a1_1 a1_2 a1_3 A1_4 c1_4 l1_4 A1_5 c1_5 l1_5 bl be n f m t1 t2 t4 t5 t6 o u1 u2 u3 u4 u5 u6 u7 q v1 v2 v3 v4 v5 v6 v7 W hr1 hc1 hr2 hc2 hr1_4 hc1_4 hr1_5 hc1_5 w1 w2 hBy hO q0 q1 q2 q3 q4).mono fun e W' he => ?_
  obtain ⟨rfl, hd⟩ := he
  have bel : Below W.heap.size W W' := hd
  exact ⟨_, rfl, _, _, _, [], _, [], hW', trodAll_mk1 (shut_bool Try.underlying4 _), (trodAll_cons_mk (Below.trod laidOut (by kernel_rfl) (of_decide_eq_true (by kernel_rfl)) k0 bel lt0) (trodAll_cons_mk (Below.trod laidOut (by kernel_rfl) (of_decide_eq_true (by kernel_rfl)) k1 bel lt1) (trodAll_cons_mk (Below.trod laidOut (by kernel_rfl) (of_decide_eq_true (by kernel_rfl)) k2 bel lt2) (trodAll_cons_mk (Below.trod laidOut (by kernel_rfl) (of_decide_eq_true (by kernel_rfl)) k3 bel lt3) trodAll_mk0)))), rfl, bel.frame _, fun h => by cases h⟩
theorem over : Rows.cellKeptRow.holds Try.pinned (OpenSpec.ofChange Rows.cellKeptSpec) :=
  OpenClaim.holds_of_wide 9 Try.f9 rfl rfl rfl rfl rfl rfl rfl ⟨rfl, rfl, rfl, rfl, rfl⟩ rfl rfl rfl rfl rfl (by kernel_rfl) Try.func9 (by kernel_rfl)
    (of_decide_eq_true (by kernel_rfl)) (by unfold Func.isWrapper; first | (rw [if_pos (by decide +kernel)]; kernel_rfl) | (rw [if_neg (by decide +kernel)]; exact ⟨rfl, rfl⟩))
    (fun os started H enc _ => lifted os started H enc)
theorem proved : Rows.CellKeptSaid := over
#print axioms proved
end Go.Proofs.Ytihefjdabjmmaaa.cellKept
namespace Go.Proofs.Ytihefjdabjmmaaa
/-- The row, under a short name, for the claim. -/
theorem cellKept_holds : Rows.CellKeptSaid := cellKept.proved
end Go.Proofs.Ytihefjdabjmmaaa
