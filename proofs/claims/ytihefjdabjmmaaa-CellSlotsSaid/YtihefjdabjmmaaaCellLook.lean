/- What cell.look does. No condition. -/
import Derived.Test.YtihefjdabjmmaaaPDx7
import Derived.Test.YtihefjdabjmmaaaHK
import Derived.Test.YtihefjdabjmmaaaCellIx
namespace Go.Proofs.Ytihefjdabjmmaaa.PD
open Go Go.RowKit Go.Proofs.YtihefjdabjmmaaaW.PrintWords Go.Proofs.YtihefjdabjmmaaaW.PrintLast Go.Proofs.YtihefjdabjmmaaaW.PrintMore
set_option linter.unusedVariables false
theorem st14_0_14 {w W : World} {g : Nat} {c0 c1 c2 c3 c4 c5 c6 c7 c8 c9 c10 c11 c12 c13 : Value} {t : TypeId} (hb : Below w.heap.size w W) (hg : w.heap.size ≤ g) (h : W.heap[g]? = some (.cells #[c0, c1, c2, c3, c4, c5, c6, c7, c8, c9, c10, c11, c12, c13] t (0, 0))) (v0 v1 v2 v3 v4 v5 v6 v7 v8 v9 v10 v11 v12 v13 : Value) :
    ((((((((((((((W.setCell ⟨g, 0, none⟩ v0).setCell ⟨g, 1, none⟩ v1).setCell ⟨g, 2, none⟩ v2).setCell ⟨g, 3, none⟩ v3).setCell ⟨g, 4, none⟩ v4).setCell ⟨g, 5, none⟩ v5).setCell ⟨g, 6, none⟩ v6).setCell ⟨g, 7, none⟩ v7).setCell ⟨g, 8, none⟩ v8).setCell ⟨g, 9, none⟩ v9).setCell ⟨g, 10, none⟩ v10).setCell ⟨g, 11, none⟩ v11).setCell ⟨g, 12, none⟩ v12).setCell ⟨g, 13, none⟩ v13).heap[g]? = some (.cells #[v0, v1, v2, v3, v4, v5, v6, v7, v8, v9, v10, v11, v12, v13] t (0, 0)) ∧ Below w.heap.size w ((((((((((((((W.setCell ⟨g, 0, none⟩ v0).setCell ⟨g, 1, none⟩ v1).setCell ⟨g, 2, none⟩ v2).setCell ⟨g, 3, none⟩ v3).setCell ⟨g, 4, none⟩ v4).setCell ⟨g, 5, none⟩ v5).setCell ⟨g, 6, none⟩ v6).setCell ⟨g, 7, none⟩ v7).setCell ⟨g, 8, none⟩ v8).setCell ⟨g, 9, none⟩ v9).setCell ⟨g, 10, none⟩ v10).setCell ⟨g, 11, none⟩ v11).setCell ⟨g, 12, none⟩ v12).setCell ⟨g, 13, none⟩ v13) ∧ ∀ k, k ≠ g → ((((((((((((((W.setCell ⟨g, 0, none⟩ v0).setCell ⟨g, 1, none⟩ v1).setCell ⟨g, 2, none⟩ v2).setCell ⟨g, 3, none⟩ v3).setCell ⟨g, 4, none⟩ v4).setCell ⟨g, 5, none⟩ v5).setCell ⟨g, 6, none⟩ v6).setCell ⟨g, 7, none⟩ v7).setCell ⟨g, 8, none⟩ v8).setCell ⟨g, 9, none⟩ v9).setCell ⟨g, 10, none⟩ v10).setCell ⟨g, 11, none⟩ v11).setCell ⟨g, 12, none⟩ v12).setCell ⟨g, 13, none⟩ v13).heap[k]? = W.heap[k]? :=
  ⟨(blk_put (cs' := #[v0, v1, v2, v3, v4, v5, v6, v7, v8, v9, v10, v11, v12, v13]) (blk_put (cs' := #[v0, v1, v2, v3, v4, v5, v6, v7, v8, v9, v10, v11, v12, c13]) (blk_put (cs' := #[v0, v1, v2, v3, v4, v5, v6, v7, v8, v9, v10, v11, c12, c13]) (blk_put (cs' := #[v0, v1, v2, v3, v4, v5, v6, v7, v8, v9, v10, c11, c12, c13]) (blk_put (cs' := #[v0, v1, v2, v3, v4, v5, v6, v7, v8, v9, c10, c11, c12, c13]) (blk_put (cs' := #[v0, v1, v2, v3, v4, v5, v6, v7, v8, c9, c10, c11, c12, c13]) (blk_put (cs' := #[v0, v1, v2, v3, v4, v5, v6, v7, c8, c9, c10, c11, c12, c13]) (blk_put (cs' := #[v0, v1, v2, v3, v4, v5, v6, c7, c8, c9, c10, c11, c12, c13]) (blk_put (cs' := #[v0, v1, v2, v3, v4, v5, c6, c7, c8, c9, c10, c11, c12, c13]) (blk_put (cs' := #[v0, v1, v2, v3, v4, c5, c6, c7, c8, c9, c10, c11, c12, c13]) (blk_put (cs' := #[v0, v1, v2, v3, c4, c5, c6, c7, c8, c9, c10, c11, c12, c13]) (blk_put (cs' := #[v0, v1, v2, c3, c4, c5, c6, c7, c8, c9, c10, c11, c12, c13]) (blk_put (cs' := #[v0, v1, c2, c3, c4, c5, c6, c7, c8, c9, c10, c11, c12, c13]) (blk_put (cs' := #[v0, c1, c2, c3, c4, c5, c6, c7, c8, c9, c10, c11, c12, c13]) h 0 v0 rfl) 1 v1 rfl) 2 v2 rfl) 3 v3 rfl) 4 v4 rfl) 5 v5 rfl) 6 v6 rfl) 7 v7 rfl) 8 v8 rfl) 9 v9 rfl) 10 v10 rfl) 11 v11 rfl) 12 v12 rfl) 13 v13 rfl), (below_set (g := g) (j := 13) (v := v13) (below_set (g := g) (j := 12) (v := v12) (below_set (g := g) (j := 11) (v := v11) (below_set (g := g) (j := 10) (v := v10) (below_set (g := g) (j := 9) (v := v9) (below_set (g := g) (j := 8) (v := v8) (below_set (g := g) (j := 7) (v := v7) (below_set (g := g) (j := 6) (v := v6) (below_set (g := g) (j := 5) (v := v5) (below_set (g := g) (j := 4) (v := v4) (below_set (g := g) (j := 3) (v := v3) (below_set (g := g) (j := 2) (v := v2) (below_set (g := g) (j := 1) (v := v1) (below_set (g := g) (j := 0) (v := v0) hb hg) hg) hg) hg) hg) hg) hg) hg) hg) hg) hg) hg) hg) hg), fun k hk => ((Below.heap_setCell _ ⟨g, 13, none⟩ v13 k hk).trans ((Below.heap_setCell _ ⟨g, 12, none⟩ v12 k hk).trans ((Below.heap_setCell _ ⟨g, 11, none⟩ v11 k hk).trans ((Below.heap_setCell _ ⟨g, 10, none⟩ v10 k hk).trans ((Below.heap_setCell _ ⟨g, 9, none⟩ v9 k hk).trans ((Below.heap_setCell _ ⟨g, 8, none⟩ v8 k hk).trans ((Below.heap_setCell _ ⟨g, 7, none⟩ v7 k hk).trans ((Below.heap_setCell _ ⟨g, 6, none⟩ v6 k hk).trans ((Below.heap_setCell _ ⟨g, 5, none⟩ v5 k hk).trans ((Below.heap_setCell _ ⟨g, 4, none⟩ v4 k hk).trans ((Below.heap_setCell _ ⟨g, 3, none⟩ v3 k hk).trans ((Below.heap_setCell _ ⟨g, 2, none⟩ v2 k hk).trans ((Below.heap_setCell _ ⟨g, 1, none⟩ v1 k hk).trans (Below.heap_setCell _ ⟨g, 0, none⟩ v0 k hk))))))))))))))⟩
theorem st14_0_7 {w W : World} {g : Nat} {c0 c1 c2 c3 c4 c5 c6 c7 c8 c9 c10 c11 c12 c13 : Value} {t : TypeId} (hb : Below w.heap.size w W) (hg : w.heap.size ≤ g) (h : W.heap[g]? = some (.cells #[c0, c1, c2, c3, c4, c5, c6, c7, c8, c9, c10, c11, c12, c13] t (0, 0))) (v0 v1 v2 v3 v4 v5 v6 : Value) :
    (((((((W.setCell ⟨g, 0, none⟩ v0).setCell ⟨g, 1, none⟩ v1).setCell ⟨g, 2, none⟩ v2).setCell ⟨g, 3, none⟩ v3).setCell ⟨g, 4, none⟩ v4).setCell ⟨g, 5, none⟩ v5).setCell ⟨g, 6, none⟩ v6).heap[g]? = some (.cells #[v0, v1, v2, v3, v4, v5, v6, c7, c8, c9, c10, c11, c12, c13] t (0, 0)) ∧ Below w.heap.size w (((((((W.setCell ⟨g, 0, none⟩ v0).setCell ⟨g, 1, none⟩ v1).setCell ⟨g, 2, none⟩ v2).setCell ⟨g, 3, none⟩ v3).setCell ⟨g, 4, none⟩ v4).setCell ⟨g, 5, none⟩ v5).setCell ⟨g, 6, none⟩ v6) ∧ ∀ k, k ≠ g → (((((((W.setCell ⟨g, 0, none⟩ v0).setCell ⟨g, 1, none⟩ v1).setCell ⟨g, 2, none⟩ v2).setCell ⟨g, 3, none⟩ v3).setCell ⟨g, 4, none⟩ v4).setCell ⟨g, 5, none⟩ v5).setCell ⟨g, 6, none⟩ v6).heap[k]? = W.heap[k]? :=
  ⟨(blk_put (cs' := #[v0, v1, v2, v3, v4, v5, v6, c7, c8, c9, c10, c11, c12, c13]) (blk_put (cs' := #[v0, v1, v2, v3, v4, v5, c6, c7, c8, c9, c10, c11, c12, c13]) (blk_put (cs' := #[v0, v1, v2, v3, v4, c5, c6, c7, c8, c9, c10, c11, c12, c13]) (blk_put (cs' := #[v0, v1, v2, v3, c4, c5, c6, c7, c8, c9, c10, c11, c12, c13]) (blk_put (cs' := #[v0, v1, v2, c3, c4, c5, c6, c7, c8, c9, c10, c11, c12, c13]) (blk_put (cs' := #[v0, v1, c2, c3, c4, c5, c6, c7, c8, c9, c10, c11, c12, c13]) (blk_put (cs' := #[v0, c1, c2, c3, c4, c5, c6, c7, c8, c9, c10, c11, c12, c13]) h 0 v0 rfl) 1 v1 rfl) 2 v2 rfl) 3 v3 rfl) 4 v4 rfl) 5 v5 rfl) 6 v6 rfl), (below_set (g := g) (j := 6) (v := v6) (below_set (g := g) (j := 5) (v := v5) (below_set (g := g) (j := 4) (v := v4) (below_set (g := g) (j := 3) (v := v3) (below_set (g := g) (j := 2) (v := v2) (below_set (g := g) (j := 1) (v := v1) (below_set (g := g) (j := 0) (v := v0) hb hg) hg) hg) hg) hg) hg) hg), fun k hk => ((Below.heap_setCell _ ⟨g, 6, none⟩ v6 k hk).trans ((Below.heap_setCell _ ⟨g, 5, none⟩ v5 k hk).trans ((Below.heap_setCell _ ⟨g, 4, none⟩ v4 k hk).trans ((Below.heap_setCell _ ⟨g, 3, none⟩ v3 k hk).trans ((Below.heap_setCell _ ⟨g, 2, none⟩ v2 k hk).trans ((Below.heap_setCell _ ⟨g, 1, none⟩ v1 k hk).trans (Below.heap_setCell _ ⟨g, 0, none⟩ v0 k hk)))))))⟩
theorem st14_7_7 {w W : World} {g : Nat} {c0 c1 c2 c3 c4 c5 c6 c7 c8 c9 c10 c11 c12 c13 : Value} {t : TypeId} (hb : Below w.heap.size w W) (hg : w.heap.size ≤ g) (h : W.heap[g]? = some (.cells #[c0, c1, c2, c3, c4, c5, c6, c7, c8, c9, c10, c11, c12, c13] t (0, 0))) (v0 v1 v2 v3 v4 v5 v6 : Value) :
    (((((((W.setCell ⟨g, 7, none⟩ v0).setCell ⟨g, 8, none⟩ v1).setCell ⟨g, 9, none⟩ v2).setCell ⟨g, 10, none⟩ v3).setCell ⟨g, 11, none⟩ v4).setCell ⟨g, 12, none⟩ v5).setCell ⟨g, 13, none⟩ v6).heap[g]? = some (.cells #[c0, c1, c2, c3, c4, c5, c6, v0, v1, v2, v3, v4, v5, v6] t (0, 0)) ∧ Below w.heap.size w (((((((W.setCell ⟨g, 7, none⟩ v0).setCell ⟨g, 8, none⟩ v1).setCell ⟨g, 9, none⟩ v2).setCell ⟨g, 10, none⟩ v3).setCell ⟨g, 11, none⟩ v4).setCell ⟨g, 12, none⟩ v5).setCell ⟨g, 13, none⟩ v6) ∧ ∀ k, k ≠ g → (((((((W.setCell ⟨g, 7, none⟩ v0).setCell ⟨g, 8, none⟩ v1).setCell ⟨g, 9, none⟩ v2).setCell ⟨g, 10, none⟩ v3).setCell ⟨g, 11, none⟩ v4).setCell ⟨g, 12, none⟩ v5).setCell ⟨g, 13, none⟩ v6).heap[k]? = W.heap[k]? :=
  ⟨(blk_put (cs' := #[c0, c1, c2, c3, c4, c5, c6, v0, v1, v2, v3, v4, v5, v6]) (blk_put (cs' := #[c0, c1, c2, c3, c4, c5, c6, v0, v1, v2, v3, v4, v5, c13]) (blk_put (cs' := #[c0, c1, c2, c3, c4, c5, c6, v0, v1, v2, v3, v4, c12, c13]) (blk_put (cs' := #[c0, c1, c2, c3, c4, c5, c6, v0, v1, v2, v3, c11, c12, c13]) (blk_put (cs' := #[c0, c1, c2, c3, c4, c5, c6, v0, v1, v2, c10, c11, c12, c13]) (blk_put (cs' := #[c0, c1, c2, c3, c4, c5, c6, v0, v1, c9, c10, c11, c12, c13]) (blk_put (cs' := #[c0, c1, c2, c3, c4, c5, c6, v0, c8, c9, c10, c11, c12, c13]) h 7 v0 rfl) 8 v1 rfl) 9 v2 rfl) 10 v3 rfl) 11 v4 rfl) 12 v5 rfl) 13 v6 rfl), (below_set (g := g) (j := 13) (v := v6) (below_set (g := g) (j := 12) (v := v5) (below_set (g := g) (j := 11) (v := v4) (below_set (g := g) (j := 10) (v := v3) (below_set (g := g) (j := 9) (v := v2) (below_set (g := g) (j := 8) (v := v1) (below_set (g := g) (j := 7) (v := v0) hb hg) hg) hg) hg) hg) hg) hg), fun k hk => ((Below.heap_setCell _ ⟨g, 13, none⟩ v6 k hk).trans ((Below.heap_setCell _ ⟨g, 12, none⟩ v5 k hk).trans ((Below.heap_setCell _ ⟨g, 11, none⟩ v4 k hk).trans ((Below.heap_setCell _ ⟨g, 10, none⟩ v3 k hk).trans ((Below.heap_setCell _ ⟨g, 9, none⟩ v2 k hk).trans ((Below.heap_setCell _ ⟨g, 8, none⟩ v1 k hk).trans (Below.heap_setCell _ ⟨g, 7, none⟩ v0 k hk)))))))⟩
theorem st14_6_1 {w W : World} {g : Nat} {c0 c1 c2 c3 c4 c5 c6 c7 c8 c9 c10 c11 c12 c13 : Value} {t : TypeId} (hb : Below w.heap.size w W) (hg : w.heap.size ≤ g) (h : W.heap[g]? = some (.cells #[c0, c1, c2, c3, c4, c5, c6, c7, c8, c9, c10, c11, c12, c13] t (0, 0))) (v0 : Value) :
    (W.setCell ⟨g, 6, none⟩ v0).heap[g]? = some (.cells #[c0, c1, c2, c3, c4, c5, v0, c7, c8, c9, c10, c11, c12, c13] t (0, 0)) ∧ Below w.heap.size w (W.setCell ⟨g, 6, none⟩ v0) ∧ ∀ k, k ≠ g → (W.setCell ⟨g, 6, none⟩ v0).heap[k]? = W.heap[k]? :=
  ⟨(blk_put (cs' := #[c0, c1, c2, c3, c4, c5, v0, c7, c8, c9, c10, c11, c12, c13]) h 6 v0 rfl), (below_set (g := g) (j := 6) (v := v0) hb hg), fun k hk => (Below.heap_setCell _ ⟨g, 6, none⟩ v0 k hk)⟩
theorem st14_13_1 {w W : World} {g : Nat} {c0 c1 c2 c3 c4 c5 c6 c7 c8 c9 c10 c11 c12 c13 : Value} {t : TypeId} (hb : Below w.heap.size w W) (hg : w.heap.size ≤ g) (h : W.heap[g]? = some (.cells #[c0, c1, c2, c3, c4, c5, c6, c7, c8, c9, c10, c11, c12, c13] t (0, 0))) (v0 : Value) :
    (W.setCell ⟨g, 13, none⟩ v0).heap[g]? = some (.cells #[c0, c1, c2, c3, c4, c5, c6, c7, c8, c9, c10, c11, c12, v0] t (0, 0)) ∧ Below w.heap.size w (W.setCell ⟨g, 13, none⟩ v0) ∧ ∀ k, k ≠ g → (W.setCell ⟨g, 13, none⟩ v0).heap[k]? = W.heap[k]? :=
  ⟨(blk_put (cs' := #[c0, c1, c2, c3, c4, c5, c6, c7, c8, c9, c10, c11, c12, v0]) h 13 v0 rfl), (below_set (g := g) (j := 13) (v := v0) hb hg), fun k hk => (Below.heap_setCell _ ⟨g, 13, none⟩ v0 k hk)⟩

abbrev Held := Int × Int × Int × Int × List Int × List Int × Bool × Int × Int × Int × Int × List Int × List Int × Bool × Int
def cell_look.zero (e : Int) : Held := (0, 0, 0, 0, [], [], false, 0, 0, 0, 0, [], [], false, e)
def cell_look.f (k : Nat) (a0 a1 a2 a3 : Int) (l0 l1 : List Int) (kind index : Int) : Option Held :=
  (layout_Drives.f k a0 a1 a2 a3).bind fun d => if d.2 = 0 then
    (slot_Parse.f k a0 a1 a2 a3 l0).bind fun p => if p.2.2.2.2.2.2.2 = 0 then
      (slot_Parse.f k a0 a1 a2 a3 l1).bind fun q => if q.2.2.2.2.2.2.2 = 0 then
        (if (kind ≠ 1 ∧ kind ≠ 2) ∨ index < 0 ∨ index ≥ d.1 then some (cell_look.zero 2) else
          some (p.1, p.2.1, p.2.2.1, p.2.2.2.1, p.2.2.2.2.1, p.2.2.2.2.2.1, (p.2.2.2.2.2.2.1 && (p.2.1 == index)), q.1, q.2.1, q.2.2.1, q.2.2.2.1, q.2.2.2.2.1, q.2.2.2.2.2.1, (q.2.2.2.2.2.2.1 && (q.2.1 == index)), 0))
      else some (cell_look.zero q.2.2.2.2.2.2.2)
    else some (cell_look.zero p.2.2.2.2.2.2.2)
  else some (cell_look.zero d.2)
set_option maxHeartbeats 4000000 in
set_option maxRecDepth 100000 in
theorem cell_look.calls (k : Nat) (a0 a1 a2 a3 : Int) (A0 : Option Addr) (c0 : Nat) (l0 : List Int) (A1 : Option Addr) (c1 : Nat) (l1 : List Int) (kind index : Int) (r1 r2 r3 r4 : Int) (r5 r6 : List Int) (r7 : Bool) (s1 s2 s3 s4 : Int) (s5 s6 : List Int) (s7 : Bool) (e : Int) (w : World)
    (hr0 : Kd.C (Kd.int .u8) w A0 l0.length l0) (hc0 : l0.length ≤ c0) (hr1 : Kd.C (Kd.int .u8) w A1 l1.length l1) (hc1 : l1.length ≤ c1)
    (h : cell_look.f k a0 a1 a2 a3 l0 l1 kind index = some (r1, r2, r3, r4, r5, r6, r7, s1, s2, s3, s4, s5, s6, s7, e)) :
    Calls Try.prog 38 #[.agg #[.int .i64 a0, .int .i64 a1, .int .i64 a2, .int .i64 a3], .agg #[.slice A0 l0.length c0, .slice A1 l1.length c1], .int .u8 kind, .int .i64 index] w fun en w' => ∃ u4 u5 v4 v5 : Value,
      en = .returned (.tuple #[.agg #[.int .u8 r1, .int .i64 r2, .int .i64 r3, .int .i64 r4, u4, u5, .bool r7, .int .u8 s1, .int .i64 s2, .int .i64 s3, .int .i64 s4, v4, v5, .bool s7], .int .i64 e]) ∧
      Kd.R (Kd.int .i64) 3 w' w.heap.size (fun _ => True) u4 r5 ∧ Kd.R (Kd.int .u8) 5 w' w.heap.size (fun _ => True) u5 r6 ∧ Kd.R (Kd.int .i64) 3 w' w.heap.size (fun _ => True) v4 s5 ∧ Kd.R (Kd.int .u8) 5 w' w.heap.size (fun _ => True) v5 s6 ∧ Below w.heap.size w w' := by
  have hu23 := Try.underlying23
  have hu27 := Try.underlying27
  have hu42 := Try.underlying42
  have hu60 := Try.underlying60
  have hu62 := Try.underlying62
  have HR0 := Lib.hid hr0
  have HR1 := Lib.hid hr1
  have HC0 := Lib.hid hc0
  have HC1 := Lib.hid hc1
  have HB := Lib.hid (Below.refl w.heap.size w)
  clear hr0 hr1 hc0 hc1
  unfold cell_look.f at h
  obtain ⟨⟨n, d⟩, hd, h⟩ := Option.bind_eq_some_iff.mp h
  have HD := Lib.hid hd
  have H := Lib.hid h
  clear hd h
  go_enter Try.func38, Try.ntmps38
  go_upto_region 1 with (first | ((with_reducible refine gate_dst (N := 4) rfl ?_); refine box_event ?hg (N := 4) ?hd (cs := #[.int .i64 a0, .int .i64 a1, .int .i64 a2, .int .i64 a3]) (t := 23) ?hr ?_; (case hd => rfl); (case hg => rfl); (case hr => first | (go_simp; done) | (go_simp; rfl)); intro gb4 hg_ w1 bk_ hb_; have GE4 := Lib.hid (show w.heap.size ≤ gb4 by rw [hg_]; exact below_size HB.out); have BK4 := Lib.hid bk_; replace HB := Lib.hid (below_step HB.out hb_); clear hb_ hg_ bk_) | ((with_reducible refine gate_dst (N := 5) rfl ?_); refine box_event ?hg (N := 5) ?hd (cs := #[.slice A0 l0.length c0, .slice A1 l1.length c1]) (t := 42) ?hr ?_; (case hd => rfl); (case hg => rfl); (case hr => first | (go_simp; done) | (go_simp; rfl)); intro gb5 hg_ w2 bk_ hb_; have GE5 := Lib.hid (show w.heap.size ≤ gb5 by rw [hg_]; exact below_size HB.out); have NB4_5 := Lib.hid (show gb4 ≠ gb5 by rw [hg_]; exact Nat.ne_of_lt (blk_lt BK4.out)); have NB5_4 := Lib.hid NB4_5.out.symm; replace BK4 := Lib.hid (blk_below BK4.out hb_); have BK5 := Lib.hid bk_; replace HB := Lib.hid (below_step HB.out hb_); clear hb_ hg_ bk_) | ((with_reducible refine gate_dst (N := 8) rfl ?_); refine box_event ?hg (N := 8) ?hd (cs := #[.int .u8 0, .int .i64 0, .int .i64 0, .int .i64 0, .slice none 0 0, .slice none 0 0, .bool false, .int .u8 0, .int .i64 0, .int .i64 0, .int .i64 0, .slice none 0 0, .slice none 0 0, .bool false]) (t := 62) ?hr ?_; (case hd => rfl); (case hg => rfl); (case hr => first | (go_simp; done) | (go_simp; rfl)); intro gb8 hg_ w3 bk_ hb_; have GE8 := Lib.hid (show w.heap.size ≤ gb8 by rw [hg_]; exact below_size HB.out); have NB4_8 := Lib.hid (show gb4 ≠ gb8 by rw [hg_]; exact Nat.ne_of_lt (blk_lt BK4.out)); have NB8_4 := Lib.hid NB4_8.out.symm; replace BK4 := Lib.hid (blk_below BK4.out hb_); have NB5_8 := Lib.hid (show gb5 ≠ gb8 by rw [hg_]; exact Nat.ne_of_lt (blk_lt BK5.out)); have NB8_5 := Lib.hid NB5_8.out.symm; replace BK5 := Lib.hid (blk_below BK5.out hb_); have BK8 := Lib.hid bk_; replace HB := Lib.hid (below_step HB.out hb_); clear hb_ hg_ bk_))
  obtain ⟨pc0, pc1, pc2, pc3, pf0, pf1, pf2, pf3⟩ := cs4 BK4.out
  go_wp2_with fail
  clear pc0 pf0 pc1 pf1 pc2 pf2 pc3 pf3
  refine (layout_Drives.calls k a0 a1 a2 a3 n d _ HD.out).mono ?_
  rintro en w4 ⟨rfl, hb⟩
  replace BK4 := Lib.hid (blk_below BK4.out hb)
  replace BK5 := Lib.hid (blk_below BK5.out hb)
  replace BK8 := Lib.hid (blk_below BK8.out hb)
  replace HB := Lib.hid (below_step HB.out hb)
  clear hb
  by_cases hdz : d = 0
  case neg =>
    have h := H.out
    simp only [if_neg hdz, cell_look.zero, Option.some.injEq, Prod.mk.injEq] at h
    obtain ⟨rfl, rfl, rfl, rfl, rfl, rfl, rfl, rfl, rfl, rfl, rfl, rfl, rfl, rfl, rfl⟩ := h
    have hd1 : (d != 0) = true := bne_iff_ne.mpr hdz
    clear H HD
    obtain ⟨zc0, zc1, zc2, zc3, zc4, zc5, zc6, zc7, zc8, zc9, zc10, zc11, zc12, zc13, zf0, zf1, zf2, zf3, zf4, zf5, zf6, zf7, zf8, zf9, zf10, zf11, zf12, zf13⟩ := cs14 BK8.out
    go_wp2_with fail
    clear zc0 zf0 zc1 zf1 zc2 zf2 zc3 zf3 zc4 zf4 zc5 zf5 zc6 zf6 zc7 zf7 zc8 zf8 zc9 zf9 zc10 zf10 zc11 zf11 zc12 zf12 zc13 zf13
    obtain ⟨hq1_, hq2_, hs_⟩ := st14_0_14 HB.out GE8.out BK8.out (.int .u8 0) (.int .i64 0) (.int .i64 0) (.int .i64 0) (.slice none 0 0) (.slice none 0 0) (.bool false) (.int .u8 0) (.int .i64 0) (.int .i64 0) (.int .i64 0) (.slice none 0 0) (.slice none 0 0) (.bool false)
    generalize ((((((((((((((w4.setCell ⟨gb8, 0, none⟩ (.int .u8 0)).setCell ⟨gb8, 1, none⟩ (.int .i64 0)).setCell ⟨gb8, 2, none⟩ (.int .i64 0)).setCell ⟨gb8, 3, none⟩ (.int .i64 0)).setCell ⟨gb8, 4, none⟩ (.slice none 0 0)).setCell ⟨gb8, 5, none⟩ (.slice none 0 0)).setCell ⟨gb8, 6, none⟩ (.bool false)).setCell ⟨gb8, 7, none⟩ (.int .u8 0)).setCell ⟨gb8, 8, none⟩ (.int .i64 0)).setCell ⟨gb8, 9, none⟩ (.int .i64 0)).setCell ⟨gb8, 10, none⟩ (.int .i64 0)).setCell ⟨gb8, 11, none⟩ (.slice none 0 0)).setCell ⟨gb8, 12, none⟩ (.slice none 0 0)).setCell ⟨gb8, 13, none⟩ (.bool false)) = wz at hs_ hq1_ hq2_ ⊢
    replace BK8 := Lib.hid hq1_
    replace HB := Lib.hid hq2_
    clear hs_ hq1_ hq2_
    refine bodyPost_ret (results_ct rfl _ _ gb8 62 #[.int .u8 0, .int .i64 0, .int .i64 0, .int .i64 0, .slice none 0 0, .slice none 0 0, .bool false, .int .u8 0, .int .i64 0, .int .i64 0, .int .i64 0, .slice none 0 0, .slice none 0 0, .bool false] (0, 0) _ rfl BK8.out Try.underlying62 rfl (by kernel_rfl)) rfl ?_
    exact ⟨_, _, _, _, rfl, Kd.R_nil _ _ _ _ _, Kd.R_nil _ _ _ _ _, Kd.R_nil _ _ _ _ _, Kd.R_nil _ _ _ _ _, HB.out⟩
  subst hdz
  have h := H.out
  simp only [if_true] at h
  obtain ⟨⟨p1, p2, p3, p4, p5, p6, p7, pe⟩, hp, h⟩ := Option.bind_eq_some_iff.mp h
  have HP := Lib.hid hp
  replace H := Lib.hid h
  clear hp h HD
  obtain ⟨qc0, qc1, qf0, qf1⟩ := cs2 BK5.out
  go_wp2_with fail
  clear qc0 qf0 qc1 qf1
  obtain ⟨pc0, pc1, pc2, pc3, pf0, pf1, pf2, pf3⟩ := cs4 BK4.out
  have hi0 := ix42_0 (.slice A0 l0.length c0) (.slice A1 l1.length c1)
  have hi1 := ix42_1 (.slice A0 l0.length c0) (.slice A1 l1.length c1)
  have hj0 := ia62_0' gb8
  have hj1 := ia62_1' gb8
  refine wp_loop_rounds 3 ?_
  rw [rounds_succ]
  go_wp2_with fail
  clear pc0 pf0 pc1 pf1 pc2 pf2 pc3 pf3
  refine (slot_Parse.calls k a0 a1 a2 a3 _ _ l0 p1 p2 p3 p4 p5 p6 p7 pe _ (Kd.C_below HR0.out HB.out) HC0.out HP.out).mono ?_
  rintro en w5 ⟨u4, u5, rfl, ho4, ho5, hb⟩
  have RU4 := Lib.hid (Kd.R_lower ho4 (below_size HB.out))
  have RU5 := Lib.hid (Kd.R_lower ho5 (below_size HB.out))
  clear ho4 ho5 HP
  replace BK4 := Lib.hid (blk_below BK4.out hb)
  replace BK5 := Lib.hid (blk_below BK5.out hb)
  replace BK8 := Lib.hid (blk_below BK8.out hb)
  replace HB := Lib.hid (below_step HB.out hb)
  clear hb
  obtain ⟨X4, x4, rfl⟩ := Kd.R_slice RU4.out
  obtain ⟨X5, x5, rfl⟩ := Kd.R_slice RU5.out
  obtain ⟨zc0, zc1, zc2, zc3, zc4, zc5, zc6, zc7, zc8, zc9, zc10, zc11, zc12, zc13, zf0, zf1, zf2, zf3, zf4, zf5, zf6, zf7, zf8, zf9, zf10, zf11, zf12, zf13⟩ := cs14 BK8.out
  by_cases hez : pe = 0
  case neg =>
    have h := H.out
    simp only [if_neg hez, cell_look.zero, Option.some.injEq, Prod.mk.injEq] at h
    obtain ⟨rfl, rfl, rfl, rfl, rfl, rfl, rfl, rfl, rfl, rfl, rfl, rfl, rfl, rfl, rfl⟩ := h
    have hd1 : (pe != 0) = true := bne_iff_ne.mpr hez
    clear H
    go_upto_region 9 with fail
    clear zc0 zf0 zc1 zf1 zc2 zf2 zc3 zf3 zc4 zf4 zc5 zf5 zc6 zf6 zc7 zf7 zc8 zf8 zc9 zf9 zc10 zf10 zc11 zf11 zc12 zf12 zc13 zf13
    obtain ⟨hq1_, hq2_, hs_⟩ := st14_0_7 HB.out GE8.out BK8.out (.int .u8 p1) (.int .i64 p2) (.int .i64 p3) (.int .i64 p4) (.slice X4 p5.length x4) (.slice X5 p6.length x5) (.bool p7)
    generalize (((((((w5.setCell ⟨gb8, 0, none⟩ (.int .u8 p1)).setCell ⟨gb8, 1, none⟩ (.int .i64 p2)).setCell ⟨gb8, 2, none⟩ (.int .i64 p3)).setCell ⟨gb8, 3, none⟩ (.int .i64 p4)).setCell ⟨gb8, 4, none⟩ (.slice X4 p5.length x4)).setCell ⟨gb8, 5, none⟩ (.slice X5 p6.length x5)).setCell ⟨gb8, 6, none⟩ (.bool p7)) = w6 at hs_ hq1_ hq2_ ⊢
    replace RU4 := Lib.hid (Kd.R_mono (Kd.R_step (Kd.R_types RU4.out BK8.out (by decide)) (fun k hk _ => hs_ k hk.2)) (ok' := fun _ => True) (fun _ _ => trivial))
    replace RU5 := Lib.hid (Kd.R_mono (Kd.R_step (Kd.R_types RU5.out BK8.out (by decide)) (fun k hk _ => hs_ k hk.2)) (ok' := fun _ => True) (fun _ _ => trivial))
    replace BK4 := Lib.hid ((hs_ gb4 NB4_8.out).trans BK4.out)
    replace BK5 := Lib.hid ((hs_ gb5 NB5_8.out).trans BK5.out)
    replace BK8 := Lib.hid hq1_
    replace HB := Lib.hid hq2_
    clear hs_ hq1_ hq2_
    obtain ⟨zc0, zc1, zc2, zc3, zc4, zc5, zc6, zc7, zc8, zc9, zc10, zc11, zc12, zc13, zf0, zf1, zf2, zf3, zf4, zf5, zf6, zf7, zf8, zf9, zf10, zf11, zf12, zf13⟩ := cs14 BK8.out
    go_wp2_with fail
    clear zc0 zf0 zc1 zf1 zc2 zf2 zc3 zf3 zc4 zf4 zc5 zf5 zc6 zf6 zc7 zf7 zc8 zf8 zc9 zf9 zc10 zf10 zc11 zf11 zc12 zf12 zc13 zf13
    obtain ⟨hq1_, hq2_, hs_⟩ := st14_0_14 HB.out GE8.out BK8.out (.int .u8 0) (.int .i64 0) (.int .i64 0) (.int .i64 0) (.slice none 0 0) (.slice none 0 0) (.bool false) (.int .u8 0) (.int .i64 0) (.int .i64 0) (.int .i64 0) (.slice none 0 0) (.slice none 0 0) (.bool false)
    generalize ((((((((((((((w6.setCell ⟨gb8, 0, none⟩ (.int .u8 0)).setCell ⟨gb8, 1, none⟩ (.int .i64 0)).setCell ⟨gb8, 2, none⟩ (.int .i64 0)).setCell ⟨gb8, 3, none⟩ (.int .i64 0)).setCell ⟨gb8, 4, none⟩ (.slice none 0 0)).setCell ⟨gb8, 5, none⟩ (.slice none 0 0)).setCell ⟨gb8, 6, none⟩ (.bool false)).setCell ⟨gb8, 7, none⟩ (.int .u8 0)).setCell ⟨gb8, 8, none⟩ (.int .i64 0)).setCell ⟨gb8, 9, none⟩ (.int .i64 0)).setCell ⟨gb8, 10, none⟩ (.int .i64 0)).setCell ⟨gb8, 11, none⟩ (.slice none 0 0)).setCell ⟨gb8, 12, none⟩ (.slice none 0 0)).setCell ⟨gb8, 13, none⟩ (.bool false)) = wz at hs_ hq1_ hq2_ ⊢
    replace BK8 := Lib.hid hq1_
    replace HB := Lib.hid hq2_
    clear hs_ hq1_ hq2_
    refine bodyPost_ret (results_ct rfl _ _ gb8 62 #[.int .u8 0, .int .i64 0, .int .i64 0, .int .i64 0, .slice none 0 0, .slice none 0 0, .bool false, .int .u8 0, .int .i64 0, .int .i64 0, .int .i64 0, .slice none 0 0, .slice none 0 0, .bool false] (0, 0) _ rfl BK8.out Try.underlying62 rfl (by kernel_rfl)) rfl ?_
    exact ⟨_, _, _, _, rfl, Kd.R_nil _ _ _ _ _, Kd.R_nil _ _ _ _ _, Kd.R_nil _ _ _ _ _, Kd.R_nil _ _ _ _ _, HB.out⟩
  subst hez
  have h := H.out
  simp only [if_true] at h
  obtain ⟨⟨q1, q2, q3, q4, q5, q6, q7, qe⟩, hq, h⟩ := Option.bind_eq_some_iff.mp h
  have HQ := Lib.hid hq
  replace H := Lib.hid h
  clear hq h
  go_upto_region 10 with fail
  clear zc0 zf0 zc1 zf1 zc2 zf2 zc3 zf3 zc4 zf4 zc5 zf5 zc6 zf6 zc7 zf7 zc8 zf8 zc9 zf9 zc10 zf10 zc11 zf11 zc12 zf12 zc13 zf13
  obtain ⟨hq1_, hq2_, hs_⟩ := st14_0_7 HB.out GE8.out BK8.out (.int .u8 p1) (.int .i64 p2) (.int .i64 p3) (.int .i64 p4) (.slice X4 p5.length x4) (.slice X5 p6.length x5) (.bool p7)
  generalize (((((((w5.setCell ⟨gb8, 0, none⟩ (.int .u8 p1)).setCell ⟨gb8, 1, none⟩ (.int .i64 p2)).setCell ⟨gb8, 2, none⟩ (.int .i64 p3)).setCell ⟨gb8, 3, none⟩ (.int .i64 p4)).setCell ⟨gb8, 4, none⟩ (.slice X4 p5.length x4)).setCell ⟨gb8, 5, none⟩ (.slice X5 p6.length x5)).setCell ⟨gb8, 6, none⟩ (.bool p7)) = w6 at hs_ hq1_ hq2_ ⊢
  replace RU4 := Lib.hid (Kd.R_mono (Kd.R_step (Kd.R_types RU4.out BK8.out (by decide)) (fun k hk _ => hs_ k hk.2)) (ok' := fun _ => True) (fun _ _ => trivial))
  replace RU5 := Lib.hid (Kd.R_mono (Kd.R_step (Kd.R_types RU5.out BK8.out (by decide)) (fun k hk _ => hs_ k hk.2)) (ok' := fun _ => True) (fun _ _ => trivial))
  replace BK4 := Lib.hid ((hs_ gb4 NB4_8.out).trans BK4.out)
  replace BK5 := Lib.hid ((hs_ gb5 NB5_8.out).trans BK5.out)
  replace BK8 := Lib.hid hq1_
  replace HB := Lib.hid hq2_
  clear hs_ hq1_ hq2_
  cases p7 with
  | false =>
    obtain ⟨zc0, zc1, zc2, zc3, zc4, zc5, zc6, zc7, zc8, zc9, zc10, zc11, zc12, zc13, zf0, zf1, zf2, zf3, zf4, zf5, zf6, zf7, zf8, zf9, zf10, zf11, zf12, zf13⟩ := cs14 BK8.out
    go_upto_region 11 with fail
    clear zc0 zf0 zc1 zf1 zc2 zf2 zc3 zf3 zc4 zf4 zc5 zf5 zc6 zf6 zc7 zf7 zc8 zf8 zc9 zf9 zc10 zf10 zc11 zf11 zc12 zf12 zc13 zf13
    obtain ⟨hq1_, hq2_, hs_⟩ := st14_6_1 HB.out GE8.out BK8.out (.bool false)
    generalize (w6.setCell ⟨gb8, 6, none⟩ (.bool false)) = w7 at hs_ hq1_ hq2_ ⊢
    replace RU4 := Lib.hid (Kd.R_mono (Kd.R_step (Kd.R_types RU4.out BK8.out (by decide)) (fun k hk _ => hs_ k hk.2)) (ok' := fun _ => True) (fun _ _ => trivial))
    replace RU5 := Lib.hid (Kd.R_mono (Kd.R_step (Kd.R_types RU5.out BK8.out (by decide)) (fun k hk _ => hs_ k hk.2)) (ok' := fun _ => True) (fun _ _ => trivial))
    replace BK4 := Lib.hid ((hs_ gb4 NB4_8.out).trans BK4.out)
    replace BK5 := Lib.hid ((hs_ gb5 NB5_8.out).trans BK5.out)
    replace BK8 := Lib.hid hq1_
    replace HB := Lib.hid hq2_
    clear hs_ hq1_ hq2_
    obtain ⟨pc0, pc1, pc2, pc3, pf0, pf1, pf2, pf3⟩ := cs4 BK4.out
    go_wp2_with fail
    rw [rounds_succ]
    go_wp2_with fail
    clear pc0 pf0 pc1 pf1 pc2 pf2 pc3 pf3
    refine (slot_Parse.calls k a0 a1 a2 a3 _ _ l1 q1 q2 q3 q4 q5 q6 q7 qe _ (Kd.C_below HR1.out HB.out) HC1.out HQ.out).mono ?_
    rintro en w8 ⟨v4, v5, rfl, ho4, ho5, hb⟩
    have RV4 := Lib.hid (Kd.R_lower ho4 (below_size HB.out))
    have RV5 := Lib.hid (Kd.R_lower ho5 (below_size HB.out))
    clear ho4 ho5 HQ
    replace BK4 := Lib.hid (blk_below BK4.out hb)
    replace BK5 := Lib.hid (blk_below BK5.out hb)
    replace BK8 := Lib.hid (blk_below BK8.out hb)
    replace RU4 := Lib.hid (Kd.R_below RU4.out hb)
    replace RU5 := Lib.hid (Kd.R_below RU5.out hb)
    replace HB := Lib.hid (below_step HB.out hb)
    clear hb
    obtain ⟨Y4, y4, rfl⟩ := Kd.R_slice RV4.out
    obtain ⟨Y5, y5, rfl⟩ := Kd.R_slice RV5.out
    obtain ⟨zc0, zc1, zc2, zc3, zc4, zc5, zc6, zc7, zc8, zc9, zc10, zc11, zc12, zc13, zf0, zf1, zf2, zf3, zf4, zf5, zf6, zf7, zf8, zf9, zf10, zf11, zf12, zf13⟩ := cs14 BK8.out
    by_cases hez : qe = 0
    case neg =>
      have h := H.out
      simp only [if_neg hez, cell_look.zero, Option.some.injEq, Prod.mk.injEq] at h
      obtain ⟨rfl, rfl, rfl, rfl, rfl, rfl, rfl, rfl, rfl, rfl, rfl, rfl, rfl, rfl, rfl⟩ := h
      have hd1 : (qe != 0) = true := bne_iff_ne.mpr hez
      clear H
      go_upto_region 9 with fail
      clear zc0 zf0 zc1 zf1 zc2 zf2 zc3 zf3 zc4 zf4 zc5 zf5 zc6 zf6 zc7 zf7 zc8 zf8 zc9 zf9 zc10 zf10 zc11 zf11 zc12 zf12 zc13 zf13
      obtain ⟨hq1_, hq2_, hs_⟩ := st14_7_7 HB.out GE8.out BK8.out (.int .u8 q1) (.int .i64 q2) (.int .i64 q3) (.int .i64 q4) (.slice Y4 q5.length y4) (.slice Y5 q6.length y5) (.bool q7)
      generalize (((((((w8.setCell ⟨gb8, 7, none⟩ (.int .u8 q1)).setCell ⟨gb8, 8, none⟩ (.int .i64 q2)).setCell ⟨gb8, 9, none⟩ (.int .i64 q3)).setCell ⟨gb8, 10, none⟩ (.int .i64 q4)).setCell ⟨gb8, 11, none⟩ (.slice Y4 q5.length y4)).setCell ⟨gb8, 12, none⟩ (.slice Y5 q6.length y5)).setCell ⟨gb8, 13, none⟩ (.bool q7)) = w9 at hs_ hq1_ hq2_ ⊢
      replace RU4 := Lib.hid (Kd.R_mono (Kd.R_step (Kd.R_types RU4.out BK8.out (by decide)) (fun k hk _ => hs_ k hk.2)) (ok' := fun _ => True) (fun _ _ => trivial))
      replace RU5 := Lib.hid (Kd.R_mono (Kd.R_step (Kd.R_types RU5.out BK8.out (by decide)) (fun k hk _ => hs_ k hk.2)) (ok' := fun _ => True) (fun _ _ => trivial))
      replace RV4 := Lib.hid (Kd.R_mono (Kd.R_step (Kd.R_types RV4.out BK8.out (by decide)) (fun k hk _ => hs_ k hk.2)) (ok' := fun _ => True) (fun _ _ => trivial))
      replace RV5 := Lib.hid (Kd.R_mono (Kd.R_step (Kd.R_types RV5.out BK8.out (by decide)) (fun k hk _ => hs_ k hk.2)) (ok' := fun _ => True) (fun _ _ => trivial))
      replace BK4 := Lib.hid ((hs_ gb4 NB4_8.out).trans BK4.out)
      replace BK5 := Lib.hid ((hs_ gb5 NB5_8.out).trans BK5.out)
      replace BK8 := Lib.hid hq1_
      replace HB := Lib.hid hq2_
      clear hs_ hq1_ hq2_
      obtain ⟨zc0, zc1, zc2, zc3, zc4, zc5, zc6, zc7, zc8, zc9, zc10, zc11, zc12, zc13, zf0, zf1, zf2, zf3, zf4, zf5, zf6, zf7, zf8, zf9, zf10, zf11, zf12, zf13⟩ := cs14 BK8.out
      go_wp2_with fail
      clear zc0 zf0 zc1 zf1 zc2 zf2 zc3 zf3 zc4 zf4 zc5 zf5 zc6 zf6 zc7 zf7 zc8 zf8 zc9 zf9 zc10 zf10 zc11 zf11 zc12 zf12 zc13 zf13
      obtain ⟨hq1_, hq2_, hs_⟩ := st14_0_14 HB.out GE8.out BK8.out (.int .u8 0) (.int .i64 0) (.int .i64 0) (.int .i64 0) (.slice none 0 0) (.slice none 0 0) (.bool false) (.int .u8 0) (.int .i64 0) (.int .i64 0) (.int .i64 0) (.slice none 0 0) (.slice none 0 0) (.bool false)
      generalize ((((((((((((((w9.setCell ⟨gb8, 0, none⟩ (.int .u8 0)).setCell ⟨gb8, 1, none⟩ (.int .i64 0)).setCell ⟨gb8, 2, none⟩ (.int .i64 0)).setCell ⟨gb8, 3, none⟩ (.int .i64 0)).setCell ⟨gb8, 4, none⟩ (.slice none 0 0)).setCell ⟨gb8, 5, none⟩ (.slice none 0 0)).setCell ⟨gb8, 6, none⟩ (.bool false)).setCell ⟨gb8, 7, none⟩ (.int .u8 0)).setCell ⟨gb8, 8, none⟩ (.int .i64 0)).setCell ⟨gb8, 9, none⟩ (.int .i64 0)).setCell ⟨gb8, 10, none⟩ (.int .i64 0)).setCell ⟨gb8, 11, none⟩ (.slice none 0 0)).setCell ⟨gb8, 12, none⟩ (.slice none 0 0)).setCell ⟨gb8, 13, none⟩ (.bool false)) = wz at hs_ hq1_ hq2_ ⊢
      replace BK8 := Lib.hid hq1_
      replace HB := Lib.hid hq2_
      clear hs_ hq1_ hq2_
      refine bodyPost_ret (results_ct rfl _ _ gb8 62 #[.int .u8 0, .int .i64 0, .int .i64 0, .int .i64 0, .slice none 0 0, .slice none 0 0, .bool false, .int .u8 0, .int .i64 0, .int .i64 0, .int .i64 0, .slice none 0 0, .slice none 0 0, .bool false] (0, 0) _ rfl BK8.out Try.underlying62 rfl (by kernel_rfl)) rfl ?_
      exact ⟨_, _, _, _, rfl, Kd.R_nil _ _ _ _ _, Kd.R_nil _ _ _ _ _, Kd.R_nil _ _ _ _ _, Kd.R_nil _ _ _ _ _, HB.out⟩
    subst hez
    have h := H.out
    simp only [if_true] at h
    replace H := Lib.hid h
    clear h
    go_upto_region 10 with fail
    clear zc0 zf0 zc1 zf1 zc2 zf2 zc3 zf3 zc4 zf4 zc5 zf5 zc6 zf6 zc7 zf7 zc8 zf8 zc9 zf9 zc10 zf10 zc11 zf11 zc12 zf12 zc13 zf13
    obtain ⟨hq1_, hq2_, hs_⟩ := st14_7_7 HB.out GE8.out BK8.out (.int .u8 q1) (.int .i64 q2) (.int .i64 q3) (.int .i64 q4) (.slice Y4 q5.length y4) (.slice Y5 q6.length y5) (.bool q7)
    generalize (((((((w8.setCell ⟨gb8, 7, none⟩ (.int .u8 q1)).setCell ⟨gb8, 8, none⟩ (.int .i64 q2)).setCell ⟨gb8, 9, none⟩ (.int .i64 q3)).setCell ⟨gb8, 10, none⟩ (.int .i64 q4)).setCell ⟨gb8, 11, none⟩ (.slice Y4 q5.length y4)).setCell ⟨gb8, 12, none⟩ (.slice Y5 q6.length y5)).setCell ⟨gb8, 13, none⟩ (.bool q7)) = w9 at hs_ hq1_ hq2_ ⊢
    replace RU4 := Lib.hid (Kd.R_mono (Kd.R_step (Kd.R_types RU4.out BK8.out (by decide)) (fun k hk _ => hs_ k hk.2)) (ok' := fun _ => True) (fun _ _ => trivial))
    replace RU5 := Lib.hid (Kd.R_mono (Kd.R_step (Kd.R_types RU5.out BK8.out (by decide)) (fun k hk _ => hs_ k hk.2)) (ok' := fun _ => True) (fun _ _ => trivial))
    replace RV4 := Lib.hid (Kd.R_mono (Kd.R_step (Kd.R_types RV4.out BK8.out (by decide)) (fun k hk _ => hs_ k hk.2)) (ok' := fun _ => True) (fun _ _ => trivial))
    replace RV5 := Lib.hid (Kd.R_mono (Kd.R_step (Kd.R_types RV5.out BK8.out (by decide)) (fun k hk _ => hs_ k hk.2)) (ok' := fun _ => True) (fun _ _ => trivial))
    replace BK4 := Lib.hid ((hs_ gb4 NB4_8.out).trans BK4.out)
    replace BK5 := Lib.hid ((hs_ gb5 NB5_8.out).trans BK5.out)
    replace BK8 := Lib.hid hq1_
    replace HB := Lib.hid hq2_
    clear hs_ hq1_ hq2_
    cases q7 with
    | false =>
      obtain ⟨zc0, zc1, zc2, zc3, zc4, zc5, zc6, zc7, zc8, zc9, zc10, zc11, zc12, zc13, zf0, zf1, zf2, zf3, zf4, zf5, zf6, zf7, zf8, zf9, zf10, zf11, zf12, zf13⟩ := cs14 BK8.out
      go_upto_region 11 with fail
      clear zc0 zf0 zc1 zf1 zc2 zf2 zc3 zf3 zc4 zf4 zc5 zf5 zc6 zf6 zc7 zf7 zc8 zf8 zc9 zf9 zc10 zf10 zc11 zf11 zc12 zf12 zc13 zf13
      obtain ⟨hq1_, hq2_, hs_⟩ := st14_13_1 HB.out GE8.out BK8.out (.bool false)
      generalize (w9.setCell ⟨gb8, 13, none⟩ (.bool false)) = w10 at hs_ hq1_ hq2_ ⊢
      replace RU4 := Lib.hid (Kd.R_mono (Kd.R_step (Kd.R_types RU4.out BK8.out (by decide)) (fun k hk _ => hs_ k hk.2)) (ok' := fun _ => True) (fun _ _ => trivial))
      replace RU5 := Lib.hid (Kd.R_mono (Kd.R_step (Kd.R_types RU5.out BK8.out (by decide)) (fun k hk _ => hs_ k hk.2)) (ok' := fun _ => True) (fun _ _ => trivial))
      replace RV4 := Lib.hid (Kd.R_mono (Kd.R_step (Kd.R_types RV4.out BK8.out (by decide)) (fun k hk _ => hs_ k hk.2)) (ok' := fun _ => True) (fun _ _ => trivial))
      replace RV5 := Lib.hid (Kd.R_mono (Kd.R_step (Kd.R_types RV5.out BK8.out (by decide)) (fun k hk _ => hs_ k hk.2)) (ok' := fun _ => True) (fun _ _ => trivial))
      replace BK4 := Lib.hid ((hs_ gb4 NB4_8.out).trans BK4.out)
      replace BK5 := Lib.hid ((hs_ gb5 NB5_8.out).trans BK5.out)
      replace BK8 := Lib.hid hq1_
      replace HB := Lib.hid hq2_
      clear hs_ hq1_ hq2_
      go_wp2_with fail
      rw [rounds_succ]
      obtain ⟨zc0, zc1, zc2, zc3, zc4, zc5, zc6, zc7, zc8, zc9, zc10, zc11, zc12, zc13, zf0, zf1, zf2, zf3, zf4, zf5, zf6, zf7, zf8, zf9, zf10, zf11, zf12, zf13⟩ := cs14 BK8.out
      by_cases hk1 : kind = 1
      · have hb1 : (kind != 1) = false := bne_eq_false_iff_eq.mpr hk1
        by_cases hi0 : index < 0
        · have hb3 : decide (index < 0) = true := decide_eq_true hi0
          have h := H.out
          rw [if_pos (show (kind ≠ 1 ∧ kind ≠ 2) ∨ index < 0 ∨ index ≥ n by omega)] at h
          simp only [cell_look.zero, Option.some.injEq, Prod.mk.injEq] at h
          obtain ⟨rfl, rfl, rfl, rfl, rfl, rfl, rfl, rfl, rfl, rfl, rfl, rfl, rfl, rfl, rfl⟩ := h
          clear H
          go_wp2_with fail
          clear zc0 zf0 zc1 zf1 zc2 zf2 zc3 zf3 zc4 zf4 zc5 zf5 zc6 zf6 zc7 zf7 zc8 zf8 zc9 zf9 zc10 zf10 zc11 zf11 zc12 zf12 zc13 zf13
          obtain ⟨hq1_, hq2_, hs_⟩ := st14_0_14 HB.out GE8.out BK8.out (.int .u8 0) (.int .i64 0) (.int .i64 0) (.int .i64 0) (.slice none 0 0) (.slice none 0 0) (.bool false) (.int .u8 0) (.int .i64 0) (.int .i64 0) (.int .i64 0) (.slice none 0 0) (.slice none 0 0) (.bool false)
          generalize ((((((((((((((w10.setCell ⟨gb8, 0, none⟩ (.int .u8 0)).setCell ⟨gb8, 1, none⟩ (.int .i64 0)).setCell ⟨gb8, 2, none⟩ (.int .i64 0)).setCell ⟨gb8, 3, none⟩ (.int .i64 0)).setCell ⟨gb8, 4, none⟩ (.slice none 0 0)).setCell ⟨gb8, 5, none⟩ (.slice none 0 0)).setCell ⟨gb8, 6, none⟩ (.bool false)).setCell ⟨gb8, 7, none⟩ (.int .u8 0)).setCell ⟨gb8, 8, none⟩ (.int .i64 0)).setCell ⟨gb8, 9, none⟩ (.int .i64 0)).setCell ⟨gb8, 10, none⟩ (.int .i64 0)).setCell ⟨gb8, 11, none⟩ (.slice none 0 0)).setCell ⟨gb8, 12, none⟩ (.slice none 0 0)).setCell ⟨gb8, 13, none⟩ (.bool false)) = wz at hs_ hq1_ hq2_ ⊢
          replace BK8 := Lib.hid hq1_
          replace HB := Lib.hid hq2_
          clear hs_ hq1_ hq2_
          refine bodyPost_ret (results_ct rfl _ _ gb8 62 #[.int .u8 0, .int .i64 0, .int .i64 0, .int .i64 0, .slice none 0 0, .slice none 0 0, .bool false, .int .u8 0, .int .i64 0, .int .i64 0, .int .i64 0, .slice none 0 0, .slice none 0 0, .bool false] (0, 0) _ rfl BK8.out Try.underlying62 rfl (by kernel_rfl)) rfl ?_
          exact ⟨_, _, _, _, rfl, Kd.R_nil _ _ _ _ _, Kd.R_nil _ _ _ _ _, Kd.R_nil _ _ _ _ _, Kd.R_nil _ _ _ _ _, HB.out⟩
        · have hb3 : decide (index < 0) = false := decide_eq_false hi0
          by_cases hi1 : index ≥ n
          · have hb4 : decide (index ≥ n) = true := decide_eq_true hi1
            have hb5 : decide (n ≤ index) = true := decide_eq_true hi1
            have h := H.out
            rw [if_pos (show (kind ≠ 1 ∧ kind ≠ 2) ∨ index < 0 ∨ index ≥ n by omega)] at h
            simp only [cell_look.zero, Option.some.injEq, Prod.mk.injEq] at h
            obtain ⟨rfl, rfl, rfl, rfl, rfl, rfl, rfl, rfl, rfl, rfl, rfl, rfl, rfl, rfl, rfl⟩ := h
            clear H
            go_wp2_with fail
            clear zc0 zf0 zc1 zf1 zc2 zf2 zc3 zf3 zc4 zf4 zc5 zf5 zc6 zf6 zc7 zf7 zc8 zf8 zc9 zf9 zc10 zf10 zc11 zf11 zc12 zf12 zc13 zf13
            obtain ⟨hq1_, hq2_, hs_⟩ := st14_0_14 HB.out GE8.out BK8.out (.int .u8 0) (.int .i64 0) (.int .i64 0) (.int .i64 0) (.slice none 0 0) (.slice none 0 0) (.bool false) (.int .u8 0) (.int .i64 0) (.int .i64 0) (.int .i64 0) (.slice none 0 0) (.slice none 0 0) (.bool false)
            generalize ((((((((((((((w10.setCell ⟨gb8, 0, none⟩ (.int .u8 0)).setCell ⟨gb8, 1, none⟩ (.int .i64 0)).setCell ⟨gb8, 2, none⟩ (.int .i64 0)).setCell ⟨gb8, 3, none⟩ (.int .i64 0)).setCell ⟨gb8, 4, none⟩ (.slice none 0 0)).setCell ⟨gb8, 5, none⟩ (.slice none 0 0)).setCell ⟨gb8, 6, none⟩ (.bool false)).setCell ⟨gb8, 7, none⟩ (.int .u8 0)).setCell ⟨gb8, 8, none⟩ (.int .i64 0)).setCell ⟨gb8, 9, none⟩ (.int .i64 0)).setCell ⟨gb8, 10, none⟩ (.int .i64 0)).setCell ⟨gb8, 11, none⟩ (.slice none 0 0)).setCell ⟨gb8, 12, none⟩ (.slice none 0 0)).setCell ⟨gb8, 13, none⟩ (.bool false)) = wz at hs_ hq1_ hq2_ ⊢
            replace BK8 := Lib.hid hq1_
            replace HB := Lib.hid hq2_
            clear hs_ hq1_ hq2_
            refine bodyPost_ret (results_ct rfl _ _ gb8 62 #[.int .u8 0, .int .i64 0, .int .i64 0, .int .i64 0, .slice none 0 0, .slice none 0 0, .bool false, .int .u8 0, .int .i64 0, .int .i64 0, .int .i64 0, .slice none 0 0, .slice none 0 0, .bool false] (0, 0) _ rfl BK8.out Try.underlying62 rfl (by kernel_rfl)) rfl ?_
            exact ⟨_, _, _, _, rfl, Kd.R_nil _ _ _ _ _, Kd.R_nil _ _ _ _ _, Kd.R_nil _ _ _ _ _, Kd.R_nil _ _ _ _ _, HB.out⟩
          · have hb4 : decide (index ≥ n) = false := decide_eq_false hi1
            have hb5 : decide (n ≤ index) = false := decide_eq_false hi1
            have h := H.out
            rw [if_neg (show ¬ ((kind ≠ 1 ∧ kind ≠ 2) ∨ index < 0 ∨ index ≥ n) by omega)] at h
            simp only [Option.some.injEq, Prod.mk.injEq] at h
            obtain ⟨rfl, rfl, rfl, rfl, rfl, rfl, rfl, rfl, rfl, rfl, rfl, rfl, rfl, rfl, rfl⟩ := h
            clear H
            go_wp2_with fail
            clear zc0 zf0 zc1 zf1 zc2 zf2 zc3 zf3 zc4 zf4 zc5 zf5 zc6 zf6 zc7 zf7 zc8 zf8 zc9 zf9 zc10 zf10 zc11 zf11 zc12 zf12 zc13 zf13
            obtain ⟨hq1_, hq2_, hs_⟩ := st14_0_14 HB.out GE8.out BK8.out (.int .u8 p1) (.int .i64 p2) (.int .i64 p3) (.int .i64 p4) (.slice X4 p5.length x4) (.slice X5 p6.length x5) (.bool false) (.int .u8 q1) (.int .i64 q2) (.int .i64 q3) (.int .i64 q4) (.slice Y4 q5.length y4) (.slice Y5 q6.length y5) (.bool false)
            generalize ((((((((((((((w10.setCell ⟨gb8, 0, none⟩ (.int .u8 p1)).setCell ⟨gb8, 1, none⟩ (.int .i64 p2)).setCell ⟨gb8, 2, none⟩ (.int .i64 p3)).setCell ⟨gb8, 3, none⟩ (.int .i64 p4)).setCell ⟨gb8, 4, none⟩ (.slice X4 p5.length x4)).setCell ⟨gb8, 5, none⟩ (.slice X5 p6.length x5)).setCell ⟨gb8, 6, none⟩ (.bool false)).setCell ⟨gb8, 7, none⟩ (.int .u8 q1)).setCell ⟨gb8, 8, none⟩ (.int .i64 q2)).setCell ⟨gb8, 9, none⟩ (.int .i64 q3)).setCell ⟨gb8, 10, none⟩ (.int .i64 q4)).setCell ⟨gb8, 11, none⟩ (.slice Y4 q5.length y4)).setCell ⟨gb8, 12, none⟩ (.slice Y5 q6.length y5)).setCell ⟨gb8, 13, none⟩ (.bool false)) = w11 at hs_ hq1_ hq2_ ⊢
            replace RU4 := Lib.hid (Kd.R_mono (Kd.R_step (Kd.R_types RU4.out BK8.out (by decide)) (fun k hk _ => hs_ k hk.2)) (ok' := fun _ => True) (fun _ _ => trivial))
            replace RU5 := Lib.hid (Kd.R_mono (Kd.R_step (Kd.R_types RU5.out BK8.out (by decide)) (fun k hk _ => hs_ k hk.2)) (ok' := fun _ => True) (fun _ _ => trivial))
            replace RV4 := Lib.hid (Kd.R_mono (Kd.R_step (Kd.R_types RV4.out BK8.out (by decide)) (fun k hk _ => hs_ k hk.2)) (ok' := fun _ => True) (fun _ _ => trivial))
            replace RV5 := Lib.hid (Kd.R_mono (Kd.R_step (Kd.R_types RV5.out BK8.out (by decide)) (fun k hk _ => hs_ k hk.2)) (ok' := fun _ => True) (fun _ _ => trivial))
            replace BK8 := Lib.hid hq1_
            replace HB := Lib.hid hq2_
            clear hs_ hq1_ hq2_
            refine bodyPost_ret (results_ct rfl _ _ gb8 62 #[.int .u8 p1, .int .i64 p2, .int .i64 p3, .int .i64 p4, .slice X4 p5.length x4, .slice X5 p6.length x5, .bool false, .int .u8 q1, .int .i64 q2, .int .i64 q3, .int .i64 q4, .slice Y4 q5.length y4, .slice Y5 q6.length y5, .bool false] (0, 0) _ rfl BK8.out Try.underlying62 rfl (by kernel_rfl)) rfl ?_
            exact ⟨_, _, _, _, rfl, RU4.out, RU5.out, RV4.out, RV5.out, HB.out⟩
      · have hb1 : (kind != 1) = true := bne_iff_ne.mpr hk1
        by_cases hk2 : kind = 2
        · have hb2 : (kind != 2) = false := bne_eq_false_iff_eq.mpr hk2
          by_cases hi0 : index < 0
          · have hb3 : decide (index < 0) = true := decide_eq_true hi0
            have h := H.out
            rw [if_pos (show (kind ≠ 1 ∧ kind ≠ 2) ∨ index < 0 ∨ index ≥ n by omega)] at h
            simp only [cell_look.zero, Option.some.injEq, Prod.mk.injEq] at h
            obtain ⟨rfl, rfl, rfl, rfl, rfl, rfl, rfl, rfl, rfl, rfl, rfl, rfl, rfl, rfl, rfl⟩ := h
            clear H
            go_wp2_with fail
            clear zc0 zf0 zc1 zf1 zc2 zf2 zc3 zf3 zc4 zf4 zc5 zf5 zc6 zf6 zc7 zf7 zc8 zf8 zc9 zf9 zc10 zf10 zc11 zf11 zc12 zf12 zc13 zf13
            obtain ⟨hq1_, hq2_, hs_⟩ := st14_0_14 HB.out GE8.out BK8.out (.int .u8 0) (.int .i64 0) (.int .i64 0) (.int .i64 0) (.slice none 0 0) (.slice none 0 0) (.bool false) (.int .u8 0) (.int .i64 0) (.int .i64 0) (.int .i64 0) (.slice none 0 0) (.slice none 0 0) (.bool false)
            generalize ((((((((((((((w10.setCell ⟨gb8, 0, none⟩ (.int .u8 0)).setCell ⟨gb8, 1, none⟩ (.int .i64 0)).setCell ⟨gb8, 2, none⟩ (.int .i64 0)).setCell ⟨gb8, 3, none⟩ (.int .i64 0)).setCell ⟨gb8, 4, none⟩ (.slice none 0 0)).setCell ⟨gb8, 5, none⟩ (.slice none 0 0)).setCell ⟨gb8, 6, none⟩ (.bool false)).setCell ⟨gb8, 7, none⟩ (.int .u8 0)).setCell ⟨gb8, 8, none⟩ (.int .i64 0)).setCell ⟨gb8, 9, none⟩ (.int .i64 0)).setCell ⟨gb8, 10, none⟩ (.int .i64 0)).setCell ⟨gb8, 11, none⟩ (.slice none 0 0)).setCell ⟨gb8, 12, none⟩ (.slice none 0 0)).setCell ⟨gb8, 13, none⟩ (.bool false)) = wz at hs_ hq1_ hq2_ ⊢
            replace BK8 := Lib.hid hq1_
            replace HB := Lib.hid hq2_
            clear hs_ hq1_ hq2_
            refine bodyPost_ret (results_ct rfl _ _ gb8 62 #[.int .u8 0, .int .i64 0, .int .i64 0, .int .i64 0, .slice none 0 0, .slice none 0 0, .bool false, .int .u8 0, .int .i64 0, .int .i64 0, .int .i64 0, .slice none 0 0, .slice none 0 0, .bool false] (0, 0) _ rfl BK8.out Try.underlying62 rfl (by kernel_rfl)) rfl ?_
            exact ⟨_, _, _, _, rfl, Kd.R_nil _ _ _ _ _, Kd.R_nil _ _ _ _ _, Kd.R_nil _ _ _ _ _, Kd.R_nil _ _ _ _ _, HB.out⟩
          · have hb3 : decide (index < 0) = false := decide_eq_false hi0
            by_cases hi1 : index ≥ n
            · have hb4 : decide (index ≥ n) = true := decide_eq_true hi1
              have hb5 : decide (n ≤ index) = true := decide_eq_true hi1
              have h := H.out
              rw [if_pos (show (kind ≠ 1 ∧ kind ≠ 2) ∨ index < 0 ∨ index ≥ n by omega)] at h
              simp only [cell_look.zero, Option.some.injEq, Prod.mk.injEq] at h
              obtain ⟨rfl, rfl, rfl, rfl, rfl, rfl, rfl, rfl, rfl, rfl, rfl, rfl, rfl, rfl, rfl⟩ := h
              clear H
              go_wp2_with fail
              clear zc0 zf0 zc1 zf1 zc2 zf2 zc3 zf3 zc4 zf4 zc5 zf5 zc6 zf6 zc7 zf7 zc8 zf8 zc9 zf9 zc10 zf10 zc11 zf11 zc12 zf12 zc13 zf13
              obtain ⟨hq1_, hq2_, hs_⟩ := st14_0_14 HB.out GE8.out BK8.out (.int .u8 0) (.int .i64 0) (.int .i64 0) (.int .i64 0) (.slice none 0 0) (.slice none 0 0) (.bool false) (.int .u8 0) (.int .i64 0) (.int .i64 0) (.int .i64 0) (.slice none 0 0) (.slice none 0 0) (.bool false)
              generalize ((((((((((((((w10.setCell ⟨gb8, 0, none⟩ (.int .u8 0)).setCell ⟨gb8, 1, none⟩ (.int .i64 0)).setCell ⟨gb8, 2, none⟩ (.int .i64 0)).setCell ⟨gb8, 3, none⟩ (.int .i64 0)).setCell ⟨gb8, 4, none⟩ (.slice none 0 0)).setCell ⟨gb8, 5, none⟩ (.slice none 0 0)).setCell ⟨gb8, 6, none⟩ (.bool false)).setCell ⟨gb8, 7, none⟩ (.int .u8 0)).setCell ⟨gb8, 8, none⟩ (.int .i64 0)).setCell ⟨gb8, 9, none⟩ (.int .i64 0)).setCell ⟨gb8, 10, none⟩ (.int .i64 0)).setCell ⟨gb8, 11, none⟩ (.slice none 0 0)).setCell ⟨gb8, 12, none⟩ (.slice none 0 0)).setCell ⟨gb8, 13, none⟩ (.bool false)) = wz at hs_ hq1_ hq2_ ⊢
              replace BK8 := Lib.hid hq1_
              replace HB := Lib.hid hq2_
              clear hs_ hq1_ hq2_
              refine bodyPost_ret (results_ct rfl _ _ gb8 62 #[.int .u8 0, .int .i64 0, .int .i64 0, .int .i64 0, .slice none 0 0, .slice none 0 0, .bool false, .int .u8 0, .int .i64 0, .int .i64 0, .int .i64 0, .slice none 0 0, .slice none 0 0, .bool false] (0, 0) _ rfl BK8.out Try.underlying62 rfl (by kernel_rfl)) rfl ?_
              exact ⟨_, _, _, _, rfl, Kd.R_nil _ _ _ _ _, Kd.R_nil _ _ _ _ _, Kd.R_nil _ _ _ _ _, Kd.R_nil _ _ _ _ _, HB.out⟩
            · have hb4 : decide (index ≥ n) = false := decide_eq_false hi1
              have hb5 : decide (n ≤ index) = false := decide_eq_false hi1
              have h := H.out
              rw [if_neg (show ¬ ((kind ≠ 1 ∧ kind ≠ 2) ∨ index < 0 ∨ index ≥ n) by omega)] at h
              simp only [Option.some.injEq, Prod.mk.injEq] at h
              obtain ⟨rfl, rfl, rfl, rfl, rfl, rfl, rfl, rfl, rfl, rfl, rfl, rfl, rfl, rfl, rfl⟩ := h
              clear H
              go_wp2_with fail
              clear zc0 zf0 zc1 zf1 zc2 zf2 zc3 zf3 zc4 zf4 zc5 zf5 zc6 zf6 zc7 zf7 zc8 zf8 zc9 zf9 zc10 zf10 zc11 zf11 zc12 zf12 zc13 zf13
              obtain ⟨hq1_, hq2_, hs_⟩ := st14_0_14 HB.out GE8.out BK8.out (.int .u8 p1) (.int .i64 p2) (.int .i64 p3) (.int .i64 p4) (.slice X4 p5.length x4) (.slice X5 p6.length x5) (.bool false) (.int .u8 q1) (.int .i64 q2) (.int .i64 q3) (.int .i64 q4) (.slice Y4 q5.length y4) (.slice Y5 q6.length y5) (.bool false)
              generalize ((((((((((((((w10.setCell ⟨gb8, 0, none⟩ (.int .u8 p1)).setCell ⟨gb8, 1, none⟩ (.int .i64 p2)).setCell ⟨gb8, 2, none⟩ (.int .i64 p3)).setCell ⟨gb8, 3, none⟩ (.int .i64 p4)).setCell ⟨gb8, 4, none⟩ (.slice X4 p5.length x4)).setCell ⟨gb8, 5, none⟩ (.slice X5 p6.length x5)).setCell ⟨gb8, 6, none⟩ (.bool false)).setCell ⟨gb8, 7, none⟩ (.int .u8 q1)).setCell ⟨gb8, 8, none⟩ (.int .i64 q2)).setCell ⟨gb8, 9, none⟩ (.int .i64 q3)).setCell ⟨gb8, 10, none⟩ (.int .i64 q4)).setCell ⟨gb8, 11, none⟩ (.slice Y4 q5.length y4)).setCell ⟨gb8, 12, none⟩ (.slice Y5 q6.length y5)).setCell ⟨gb8, 13, none⟩ (.bool false)) = w11 at hs_ hq1_ hq2_ ⊢
              replace RU4 := Lib.hid (Kd.R_mono (Kd.R_step (Kd.R_types RU4.out BK8.out (by decide)) (fun k hk _ => hs_ k hk.2)) (ok' := fun _ => True) (fun _ _ => trivial))
              replace RU5 := Lib.hid (Kd.R_mono (Kd.R_step (Kd.R_types RU5.out BK8.out (by decide)) (fun k hk _ => hs_ k hk.2)) (ok' := fun _ => True) (fun _ _ => trivial))
              replace RV4 := Lib.hid (Kd.R_mono (Kd.R_step (Kd.R_types RV4.out BK8.out (by decide)) (fun k hk _ => hs_ k hk.2)) (ok' := fun _ => True) (fun _ _ => trivial))
              replace RV5 := Lib.hid (Kd.R_mono (Kd.R_step (Kd.R_types RV5.out BK8.out (by decide)) (fun k hk _ => hs_ k hk.2)) (ok' := fun _ => True) (fun _ _ => trivial))
              replace BK8 := Lib.hid hq1_
              replace HB := Lib.hid hq2_
              clear hs_ hq1_ hq2_
              refine bodyPost_ret (results_ct rfl _ _ gb8 62 #[.int .u8 p1, .int .i64 p2, .int .i64 p3, .int .i64 p4, .slice X4 p5.length x4, .slice X5 p6.length x5, .bool false, .int .u8 q1, .int .i64 q2, .int .i64 q3, .int .i64 q4, .slice Y4 q5.length y4, .slice Y5 q6.length y5, .bool false] (0, 0) _ rfl BK8.out Try.underlying62 rfl (by kernel_rfl)) rfl ?_
              exact ⟨_, _, _, _, rfl, RU4.out, RU5.out, RV4.out, RV5.out, HB.out⟩
        · have hb2 : (kind != 2) = true := bne_iff_ne.mpr hk2
          have h := H.out
          rw [if_pos (show (kind ≠ 1 ∧ kind ≠ 2) ∨ index < 0 ∨ index ≥ n by omega)] at h
          simp only [cell_look.zero, Option.some.injEq, Prod.mk.injEq] at h
          obtain ⟨rfl, rfl, rfl, rfl, rfl, rfl, rfl, rfl, rfl, rfl, rfl, rfl, rfl, rfl, rfl⟩ := h
          clear H
          go_wp2_with fail
          clear zc0 zf0 zc1 zf1 zc2 zf2 zc3 zf3 zc4 zf4 zc5 zf5 zc6 zf6 zc7 zf7 zc8 zf8 zc9 zf9 zc10 zf10 zc11 zf11 zc12 zf12 zc13 zf13
          obtain ⟨hq1_, hq2_, hs_⟩ := st14_0_14 HB.out GE8.out BK8.out (.int .u8 0) (.int .i64 0) (.int .i64 0) (.int .i64 0) (.slice none 0 0) (.slice none 0 0) (.bool false) (.int .u8 0) (.int .i64 0) (.int .i64 0) (.int .i64 0) (.slice none 0 0) (.slice none 0 0) (.bool false)
          generalize ((((((((((((((w10.setCell ⟨gb8, 0, none⟩ (.int .u8 0)).setCell ⟨gb8, 1, none⟩ (.int .i64 0)).setCell ⟨gb8, 2, none⟩ (.int .i64 0)).setCell ⟨gb8, 3, none⟩ (.int .i64 0)).setCell ⟨gb8, 4, none⟩ (.slice none 0 0)).setCell ⟨gb8, 5, none⟩ (.slice none 0 0)).setCell ⟨gb8, 6, none⟩ (.bool false)).setCell ⟨gb8, 7, none⟩ (.int .u8 0)).setCell ⟨gb8, 8, none⟩ (.int .i64 0)).setCell ⟨gb8, 9, none⟩ (.int .i64 0)).setCell ⟨gb8, 10, none⟩ (.int .i64 0)).setCell ⟨gb8, 11, none⟩ (.slice none 0 0)).setCell ⟨gb8, 12, none⟩ (.slice none 0 0)).setCell ⟨gb8, 13, none⟩ (.bool false)) = wz at hs_ hq1_ hq2_ ⊢
          replace BK8 := Lib.hid hq1_
          replace HB := Lib.hid hq2_
          clear hs_ hq1_ hq2_
          refine bodyPost_ret (results_ct rfl _ _ gb8 62 #[.int .u8 0, .int .i64 0, .int .i64 0, .int .i64 0, .slice none 0 0, .slice none 0 0, .bool false, .int .u8 0, .int .i64 0, .int .i64 0, .int .i64 0, .slice none 0 0, .slice none 0 0, .bool false] (0, 0) _ rfl BK8.out Try.underlying62 rfl (by kernel_rfl)) rfl ?_
          exact ⟨_, _, _, _, rfl, Kd.R_nil _ _ _ _ _, Kd.R_nil _ _ _ _ _, Kd.R_nil _ _ _ _ _, Kd.R_nil _ _ _ _ _, HB.out⟩
    | true =>
      obtain ⟨zc0, zc1, zc2, zc3, zc4, zc5, zc6, zc7, zc8, zc9, zc10, zc11, zc12, zc13, zf0, zf1, zf2, zf3, zf4, zf5, zf6, zf7, zf8, zf9, zf10, zf11, zf12, zf13⟩ := cs14 BK8.out
      go_upto_region 11 with fail
      clear zc0 zf0 zc1 zf1 zc2 zf2 zc3 zf3 zc4 zf4 zc5 zf5 zc6 zf6 zc7 zf7 zc8 zf8 zc9 zf9 zc10 zf10 zc11 zf11 zc12 zf12 zc13 zf13
      obtain ⟨hq1_, hq2_, hs_⟩ := st14_13_1 HB.out GE8.out BK8.out (.bool (q2 == index))
      generalize (w9.setCell ⟨gb8, 13, none⟩ (.bool (q2 == index))) = w10 at hs_ hq1_ hq2_ ⊢
      replace RU4 := Lib.hid (Kd.R_mono (Kd.R_step (Kd.R_types RU4.out BK8.out (by decide)) (fun k hk _ => hs_ k hk.2)) (ok' := fun _ => True) (fun _ _ => trivial))
      replace RU5 := Lib.hid (Kd.R_mono (Kd.R_step (Kd.R_types RU5.out BK8.out (by decide)) (fun k hk _ => hs_ k hk.2)) (ok' := fun _ => True) (fun _ _ => trivial))
      replace RV4 := Lib.hid (Kd.R_mono (Kd.R_step (Kd.R_types RV4.out BK8.out (by decide)) (fun k hk _ => hs_ k hk.2)) (ok' := fun _ => True) (fun _ _ => trivial))
      replace RV5 := Lib.hid (Kd.R_mono (Kd.R_step (Kd.R_types RV5.out BK8.out (by decide)) (fun k hk _ => hs_ k hk.2)) (ok' := fun _ => True) (fun _ _ => trivial))
      replace BK4 := Lib.hid ((hs_ gb4 NB4_8.out).trans BK4.out)
      replace BK5 := Lib.hid ((hs_ gb5 NB5_8.out).trans BK5.out)
      replace BK8 := Lib.hid hq1_
      replace HB := Lib.hid hq2_
      clear hs_ hq1_ hq2_
      go_wp2_with fail
      rw [rounds_succ]
      obtain ⟨zc0, zc1, zc2, zc3, zc4, zc5, zc6, zc7, zc8, zc9, zc10, zc11, zc12, zc13, zf0, zf1, zf2, zf3, zf4, zf5, zf6, zf7, zf8, zf9, zf10, zf11, zf12, zf13⟩ := cs14 BK8.out
      by_cases hk1 : kind = 1
      · have hb1 : (kind != 1) = false := bne_eq_false_iff_eq.mpr hk1
        by_cases hi0 : index < 0
        · have hb3 : decide (index < 0) = true := decide_eq_true hi0
          have h := H.out
          rw [if_pos (show (kind ≠ 1 ∧ kind ≠ 2) ∨ index < 0 ∨ index ≥ n by omega)] at h
          simp only [cell_look.zero, Option.some.injEq, Prod.mk.injEq] at h
          obtain ⟨rfl, rfl, rfl, rfl, rfl, rfl, rfl, rfl, rfl, rfl, rfl, rfl, rfl, rfl, rfl⟩ := h
          clear H
          go_wp2_with fail
          clear zc0 zf0 zc1 zf1 zc2 zf2 zc3 zf3 zc4 zf4 zc5 zf5 zc6 zf6 zc7 zf7 zc8 zf8 zc9 zf9 zc10 zf10 zc11 zf11 zc12 zf12 zc13 zf13
          obtain ⟨hq1_, hq2_, hs_⟩ := st14_0_14 HB.out GE8.out BK8.out (.int .u8 0) (.int .i64 0) (.int .i64 0) (.int .i64 0) (.slice none 0 0) (.slice none 0 0) (.bool false) (.int .u8 0) (.int .i64 0) (.int .i64 0) (.int .i64 0) (.slice none 0 0) (.slice none 0 0) (.bool false)
          generalize ((((((((((((((w10.setCell ⟨gb8, 0, none⟩ (.int .u8 0)).setCell ⟨gb8, 1, none⟩ (.int .i64 0)).setCell ⟨gb8, 2, none⟩ (.int .i64 0)).setCell ⟨gb8, 3, none⟩ (.int .i64 0)).setCell ⟨gb8, 4, none⟩ (.slice none 0 0)).setCell ⟨gb8, 5, none⟩ (.slice none 0 0)).setCell ⟨gb8, 6, none⟩ (.bool false)).setCell ⟨gb8, 7, none⟩ (.int .u8 0)).setCell ⟨gb8, 8, none⟩ (.int .i64 0)).setCell ⟨gb8, 9, none⟩ (.int .i64 0)).setCell ⟨gb8, 10, none⟩ (.int .i64 0)).setCell ⟨gb8, 11, none⟩ (.slice none 0 0)).setCell ⟨gb8, 12, none⟩ (.slice none 0 0)).setCell ⟨gb8, 13, none⟩ (.bool false)) = wz at hs_ hq1_ hq2_ ⊢
          replace BK8 := Lib.hid hq1_
          replace HB := Lib.hid hq2_
          clear hs_ hq1_ hq2_
          refine bodyPost_ret (results_ct rfl _ _ gb8 62 #[.int .u8 0, .int .i64 0, .int .i64 0, .int .i64 0, .slice none 0 0, .slice none 0 0, .bool false, .int .u8 0, .int .i64 0, .int .i64 0, .int .i64 0, .slice none 0 0, .slice none 0 0, .bool false] (0, 0) _ rfl BK8.out Try.underlying62 rfl (by kernel_rfl)) rfl ?_
          exact ⟨_, _, _, _, rfl, Kd.R_nil _ _ _ _ _, Kd.R_nil _ _ _ _ _, Kd.R_nil _ _ _ _ _, Kd.R_nil _ _ _ _ _, HB.out⟩
        · have hb3 : decide (index < 0) = false := decide_eq_false hi0
          by_cases hi1 : index ≥ n
          · have hb4 : decide (index ≥ n) = true := decide_eq_true hi1
            have hb5 : decide (n ≤ index) = true := decide_eq_true hi1
            have h := H.out
            rw [if_pos (show (kind ≠ 1 ∧ kind ≠ 2) ∨ index < 0 ∨ index ≥ n by omega)] at h
            simp only [cell_look.zero, Option.some.injEq, Prod.mk.injEq] at h
            obtain ⟨rfl, rfl, rfl, rfl, rfl, rfl, rfl, rfl, rfl, rfl, rfl, rfl, rfl, rfl, rfl⟩ := h
            clear H
            go_wp2_with fail
            clear zc0 zf0 zc1 zf1 zc2 zf2 zc3 zf3 zc4 zf4 zc5 zf5 zc6 zf6 zc7 zf7 zc8 zf8 zc9 zf9 zc10 zf10 zc11 zf11 zc12 zf12 zc13 zf13
            obtain ⟨hq1_, hq2_, hs_⟩ := st14_0_14 HB.out GE8.out BK8.out (.int .u8 0) (.int .i64 0) (.int .i64 0) (.int .i64 0) (.slice none 0 0) (.slice none 0 0) (.bool false) (.int .u8 0) (.int .i64 0) (.int .i64 0) (.int .i64 0) (.slice none 0 0) (.slice none 0 0) (.bool false)
            generalize ((((((((((((((w10.setCell ⟨gb8, 0, none⟩ (.int .u8 0)).setCell ⟨gb8, 1, none⟩ (.int .i64 0)).setCell ⟨gb8, 2, none⟩ (.int .i64 0)).setCell ⟨gb8, 3, none⟩ (.int .i64 0)).setCell ⟨gb8, 4, none⟩ (.slice none 0 0)).setCell ⟨gb8, 5, none⟩ (.slice none 0 0)).setCell ⟨gb8, 6, none⟩ (.bool false)).setCell ⟨gb8, 7, none⟩ (.int .u8 0)).setCell ⟨gb8, 8, none⟩ (.int .i64 0)).setCell ⟨gb8, 9, none⟩ (.int .i64 0)).setCell ⟨gb8, 10, none⟩ (.int .i64 0)).setCell ⟨gb8, 11, none⟩ (.slice none 0 0)).setCell ⟨gb8, 12, none⟩ (.slice none 0 0)).setCell ⟨gb8, 13, none⟩ (.bool false)) = wz at hs_ hq1_ hq2_ ⊢
            replace BK8 := Lib.hid hq1_
            replace HB := Lib.hid hq2_
            clear hs_ hq1_ hq2_
            refine bodyPost_ret (results_ct rfl _ _ gb8 62 #[.int .u8 0, .int .i64 0, .int .i64 0, .int .i64 0, .slice none 0 0, .slice none 0 0, .bool false, .int .u8 0, .int .i64 0, .int .i64 0, .int .i64 0, .slice none 0 0, .slice none 0 0, .bool false] (0, 0) _ rfl BK8.out Try.underlying62 rfl (by kernel_rfl)) rfl ?_
            exact ⟨_, _, _, _, rfl, Kd.R_nil _ _ _ _ _, Kd.R_nil _ _ _ _ _, Kd.R_nil _ _ _ _ _, Kd.R_nil _ _ _ _ _, HB.out⟩
          · have hb4 : decide (index ≥ n) = false := decide_eq_false hi1
            have hb5 : decide (n ≤ index) = false := decide_eq_false hi1
            have h := H.out
            rw [if_neg (show ¬ ((kind ≠ 1 ∧ kind ≠ 2) ∨ index < 0 ∨ index ≥ n) by omega)] at h
            simp only [Option.some.injEq, Prod.mk.injEq] at h
            obtain ⟨rfl, rfl, rfl, rfl, rfl, rfl, rfl, rfl, rfl, rfl, rfl, rfl, rfl, rfl, rfl⟩ := h
            clear H
            go_wp2_with fail
            clear zc0 zf0 zc1 zf1 zc2 zf2 zc3 zf3 zc4 zf4 zc5 zf5 zc6 zf6 zc7 zf7 zc8 zf8 zc9 zf9 zc10 zf10 zc11 zf11 zc12 zf12 zc13 zf13
            obtain ⟨hq1_, hq2_, hs_⟩ := st14_0_14 HB.out GE8.out BK8.out (.int .u8 p1) (.int .i64 p2) (.int .i64 p3) (.int .i64 p4) (.slice X4 p5.length x4) (.slice X5 p6.length x5) (.bool false) (.int .u8 q1) (.int .i64 q2) (.int .i64 q3) (.int .i64 q4) (.slice Y4 q5.length y4) (.slice Y5 q6.length y5) (.bool (q2 == index))
            generalize ((((((((((((((w10.setCell ⟨gb8, 0, none⟩ (.int .u8 p1)).setCell ⟨gb8, 1, none⟩ (.int .i64 p2)).setCell ⟨gb8, 2, none⟩ (.int .i64 p3)).setCell ⟨gb8, 3, none⟩ (.int .i64 p4)).setCell ⟨gb8, 4, none⟩ (.slice X4 p5.length x4)).setCell ⟨gb8, 5, none⟩ (.slice X5 p6.length x5)).setCell ⟨gb8, 6, none⟩ (.bool false)).setCell ⟨gb8, 7, none⟩ (.int .u8 q1)).setCell ⟨gb8, 8, none⟩ (.int .i64 q2)).setCell ⟨gb8, 9, none⟩ (.int .i64 q3)).setCell ⟨gb8, 10, none⟩ (.int .i64 q4)).setCell ⟨gb8, 11, none⟩ (.slice Y4 q5.length y4)).setCell ⟨gb8, 12, none⟩ (.slice Y5 q6.length y5)).setCell ⟨gb8, 13, none⟩ (.bool (q2 == index))) = w11 at hs_ hq1_ hq2_ ⊢
            replace RU4 := Lib.hid (Kd.R_mono (Kd.R_step (Kd.R_types RU4.out BK8.out (by decide)) (fun k hk _ => hs_ k hk.2)) (ok' := fun _ => True) (fun _ _ => trivial))
            replace RU5 := Lib.hid (Kd.R_mono (Kd.R_step (Kd.R_types RU5.out BK8.out (by decide)) (fun k hk _ => hs_ k hk.2)) (ok' := fun _ => True) (fun _ _ => trivial))
            replace RV4 := Lib.hid (Kd.R_mono (Kd.R_step (Kd.R_types RV4.out BK8.out (by decide)) (fun k hk _ => hs_ k hk.2)) (ok' := fun _ => True) (fun _ _ => trivial))
            replace RV5 := Lib.hid (Kd.R_mono (Kd.R_step (Kd.R_types RV5.out BK8.out (by decide)) (fun k hk _ => hs_ k hk.2)) (ok' := fun _ => True) (fun _ _ => trivial))
            replace BK8 := Lib.hid hq1_
            replace HB := Lib.hid hq2_
            clear hs_ hq1_ hq2_
            refine bodyPost_ret (results_ct rfl _ _ gb8 62 #[.int .u8 p1, .int .i64 p2, .int .i64 p3, .int .i64 p4, .slice X4 p5.length x4, .slice X5 p6.length x5, .bool false, .int .u8 q1, .int .i64 q2, .int .i64 q3, .int .i64 q4, .slice Y4 q5.length y4, .slice Y5 q6.length y5, .bool (q2 == index)] (0, 0) _ rfl BK8.out Try.underlying62 rfl (by kernel_rfl)) rfl ?_
            exact ⟨_, _, _, _, rfl, RU4.out, RU5.out, RV4.out, RV5.out, HB.out⟩
      · have hb1 : (kind != 1) = true := bne_iff_ne.mpr hk1
        by_cases hk2 : kind = 2
        · have hb2 : (kind != 2) = false := bne_eq_false_iff_eq.mpr hk2
          by_cases hi0 : index < 0
          · have hb3 : decide (index < 0) = true := decide_eq_true hi0
            have h := H.out
            rw [if_pos (show (kind ≠ 1 ∧ kind ≠ 2) ∨ index < 0 ∨ index ≥ n by omega)] at h
            simp only [cell_look.zero, Option.some.injEq, Prod.mk.injEq] at h
            obtain ⟨rfl, rfl, rfl, rfl, rfl, rfl, rfl, rfl, rfl, rfl, rfl, rfl, rfl, rfl, rfl⟩ := h
            clear H
            go_wp2_with fail
            clear zc0 zf0 zc1 zf1 zc2 zf2 zc3 zf3 zc4 zf4 zc5 zf5 zc6 zf6 zc7 zf7 zc8 zf8 zc9 zf9 zc10 zf10 zc11 zf11 zc12 zf12 zc13 zf13
            obtain ⟨hq1_, hq2_, hs_⟩ := st14_0_14 HB.out GE8.out BK8.out (.int .u8 0) (.int .i64 0) (.int .i64 0) (.int .i64 0) (.slice none 0 0) (.slice none 0 0) (.bool false) (.int .u8 0) (.int .i64 0) (.int .i64 0) (.int .i64 0) (.slice none 0 0) (.slice none 0 0) (.bool false)
            generalize ((((((((((((((w10.setCell ⟨gb8, 0, none⟩ (.int .u8 0)).setCell ⟨gb8, 1, none⟩ (.int .i64 0)).setCell ⟨gb8, 2, none⟩ (.int .i64 0)).setCell ⟨gb8, 3, none⟩ (.int .i64 0)).setCell ⟨gb8, 4, none⟩ (.slice none 0 0)).setCell ⟨gb8, 5, none⟩ (.slice none 0 0)).setCell ⟨gb8, 6, none⟩ (.bool false)).setCell ⟨gb8, 7, none⟩ (.int .u8 0)).setCell ⟨gb8, 8, none⟩ (.int .i64 0)).setCell ⟨gb8, 9, none⟩ (.int .i64 0)).setCell ⟨gb8, 10, none⟩ (.int .i64 0)).setCell ⟨gb8, 11, none⟩ (.slice none 0 0)).setCell ⟨gb8, 12, none⟩ (.slice none 0 0)).setCell ⟨gb8, 13, none⟩ (.bool false)) = wz at hs_ hq1_ hq2_ ⊢
            replace BK8 := Lib.hid hq1_
            replace HB := Lib.hid hq2_
            clear hs_ hq1_ hq2_
            refine bodyPost_ret (results_ct rfl _ _ gb8 62 #[.int .u8 0, .int .i64 0, .int .i64 0, .int .i64 0, .slice none 0 0, .slice none 0 0, .bool false, .int .u8 0, .int .i64 0, .int .i64 0, .int .i64 0, .slice none 0 0, .slice none 0 0, .bool false] (0, 0) _ rfl BK8.out Try.underlying62 rfl (by kernel_rfl)) rfl ?_
            exact ⟨_, _, _, _, rfl, Kd.R_nil _ _ _ _ _, Kd.R_nil _ _ _ _ _, Kd.R_nil _ _ _ _ _, Kd.R_nil _ _ _ _ _, HB.out⟩
          · have hb3 : decide (index < 0) = false := decide_eq_false hi0
            by_cases hi1 : index ≥ n
            · have hb4 : decide (index ≥ n) = true := decide_eq_true hi1
              have hb5 : decide (n ≤ index) = true := decide_eq_true hi1
              have h := H.out
              rw [if_pos (show (kind ≠ 1 ∧ kind ≠ 2) ∨ index < 0 ∨ index ≥ n by omega)] at h
              simp only [cell_look.zero, Option.some.injEq, Prod.mk.injEq] at h
              obtain ⟨rfl, rfl, rfl, rfl, rfl, rfl, rfl, rfl, rfl, rfl, rfl, rfl, rfl, rfl, rfl⟩ := h
              clear H
              go_wp2_with fail
              clear zc0 zf0 zc1 zf1 zc2 zf2 zc3 zf3 zc4 zf4 zc5 zf5 zc6 zf6 zc7 zf7 zc8 zf8 zc9 zf9 zc10 zf10 zc11 zf11 zc12 zf12 zc13 zf13
              obtain ⟨hq1_, hq2_, hs_⟩ := st14_0_14 HB.out GE8.out BK8.out (.int .u8 0) (.int .i64 0) (.int .i64 0) (.int .i64 0) (.slice none 0 0) (.slice none 0 0) (.bool false) (.int .u8 0) (.int .i64 0) (.int .i64 0) (.int .i64 0) (.slice none 0 0) (.slice none 0 0) (.bool false)
              generalize ((((((((((((((w10.setCell ⟨gb8, 0, none⟩ (.int .u8 0)).setCell ⟨gb8, 1, none⟩ (.int .i64 0)).setCell ⟨gb8, 2, none⟩ (.int .i64 0)).setCell ⟨gb8, 3, none⟩ (.int .i64 0)).setCell ⟨gb8, 4, none⟩ (.slice none 0 0)).setCell ⟨gb8, 5, none⟩ (.slice none 0 0)).setCell ⟨gb8, 6, none⟩ (.bool false)).setCell ⟨gb8, 7, none⟩ (.int .u8 0)).setCell ⟨gb8, 8, none⟩ (.int .i64 0)).setCell ⟨gb8, 9, none⟩ (.int .i64 0)).setCell ⟨gb8, 10, none⟩ (.int .i64 0)).setCell ⟨gb8, 11, none⟩ (.slice none 0 0)).setCell ⟨gb8, 12, none⟩ (.slice none 0 0)).setCell ⟨gb8, 13, none⟩ (.bool false)) = wz at hs_ hq1_ hq2_ ⊢
              replace BK8 := Lib.hid hq1_
              replace HB := Lib.hid hq2_
              clear hs_ hq1_ hq2_
              refine bodyPost_ret (results_ct rfl _ _ gb8 62 #[.int .u8 0, .int .i64 0, .int .i64 0, .int .i64 0, .slice none 0 0, .slice none 0 0, .bool false, .int .u8 0, .int .i64 0, .int .i64 0, .int .i64 0, .slice none 0 0, .slice none 0 0, .bool false] (0, 0) _ rfl BK8.out Try.underlying62 rfl (by kernel_rfl)) rfl ?_
              exact ⟨_, _, _, _, rfl, Kd.R_nil _ _ _ _ _, Kd.R_nil _ _ _ _ _, Kd.R_nil _ _ _ _ _, Kd.R_nil _ _ _ _ _, HB.out⟩
            · have hb4 : decide (index ≥ n) = false := decide_eq_false hi1
              have hb5 : decide (n ≤ index) = false := decide_eq_false hi1
              have h := H.out
              rw [if_neg (show ¬ ((kind ≠ 1 ∧ kind ≠ 2) ∨ index < 0 ∨ index ≥ n) by omega)] at h
              simp only [Option.some.injEq, Prod.mk.injEq] at h
              obtain ⟨rfl, rfl, rfl, rfl, rfl, rfl, rfl, rfl, rfl, rfl, rfl, rfl, rfl, rfl, rfl⟩ := h
              clear H
              go_wp2_with fail
              clear zc0 zf0 zc1 zf1 zc2 zf2 zc3 zf3 zc4 zf4 zc5 zf5 zc6 zf6 zc7 zf7 zc8 zf8 zc9 zf9 zc10 zf10 zc11 zf11 zc12 zf12 zc13 zf13
              obtain ⟨hq1_, hq2_, hs_⟩ := st14_0_14 HB.out GE8.out BK8.out (.int .u8 p1) (.int .i64 p2) (.int .i64 p3) (.int .i64 p4) (.slice X4 p5.length x4) (.slice X5 p6.length x5) (.bool false) (.int .u8 q1) (.int .i64 q2) (.int .i64 q3) (.int .i64 q4) (.slice Y4 q5.length y4) (.slice Y5 q6.length y5) (.bool (q2 == index))
              generalize ((((((((((((((w10.setCell ⟨gb8, 0, none⟩ (.int .u8 p1)).setCell ⟨gb8, 1, none⟩ (.int .i64 p2)).setCell ⟨gb8, 2, none⟩ (.int .i64 p3)).setCell ⟨gb8, 3, none⟩ (.int .i64 p4)).setCell ⟨gb8, 4, none⟩ (.slice X4 p5.length x4)).setCell ⟨gb8, 5, none⟩ (.slice X5 p6.length x5)).setCell ⟨gb8, 6, none⟩ (.bool false)).setCell ⟨gb8, 7, none⟩ (.int .u8 q1)).setCell ⟨gb8, 8, none⟩ (.int .i64 q2)).setCell ⟨gb8, 9, none⟩ (.int .i64 q3)).setCell ⟨gb8, 10, none⟩ (.int .i64 q4)).setCell ⟨gb8, 11, none⟩ (.slice Y4 q5.length y4)).setCell ⟨gb8, 12, none⟩ (.slice Y5 q6.length y5)).setCell ⟨gb8, 13, none⟩ (.bool (q2 == index))) = w11 at hs_ hq1_ hq2_ ⊢
              replace RU4 := Lib.hid (Kd.R_mono (Kd.R_step (Kd.R_types RU4.out BK8.out (by decide)) (fun k hk _ => hs_ k hk.2)) (ok' := fun _ => True) (fun _ _ => trivial))
              replace RU5 := Lib.hid (Kd.R_mono (Kd.R_step (Kd.R_types RU5.out BK8.out (by decide)) (fun k hk _ => hs_ k hk.2)) (ok' := fun _ => True) (fun _ _ => trivial))
              replace RV4 := Lib.hid (Kd.R_mono (Kd.R_step (Kd.R_types RV4.out BK8.out (by decide)) (fun k hk _ => hs_ k hk.2)) (ok' := fun _ => True) (fun _ _ => trivial))
              replace RV5 := Lib.hid (Kd.R_mono (Kd.R_step (Kd.R_types RV5.out BK8.out (by decide)) (fun k hk _ => hs_ k hk.2)) (ok' := fun _ => True) (fun _ _ => trivial))
              replace BK8 := Lib.hid hq1_
              replace HB := Lib.hid hq2_
              clear hs_ hq1_ hq2_
              refine bodyPost_ret (results_ct rfl _ _ gb8 62 #[.int .u8 p1, .int .i64 p2, .int .i64 p3, .int .i64 p4, .slice X4 p5.length x4, .slice X5 p6.length x5, .bool false, .int .u8 q1, .int .i64 q2, .int .i64 q3, .int .i64 q4, .slice Y4 q5.length y4, .slice Y5 q6.length y5, .bool (q2 == index)] (0, 0) _ rfl BK8.out Try.underlying62 rfl (by kernel_rfl)) rfl ?_
              exact ⟨_, _, _, _, rfl, RU4.out, RU5.out, RV4.out, RV5.out, HB.out⟩
        · have hb2 : (kind != 2) = true := bne_iff_ne.mpr hk2
          have h := H.out
          rw [if_pos (show (kind ≠ 1 ∧ kind ≠ 2) ∨ index < 0 ∨ index ≥ n by omega)] at h
          simp only [cell_look.zero, Option.some.injEq, Prod.mk.injEq] at h
          obtain ⟨rfl, rfl, rfl, rfl, rfl, rfl, rfl, rfl, rfl, rfl, rfl, rfl, rfl, rfl, rfl⟩ := h
          clear H
          go_wp2_with fail
          clear zc0 zf0 zc1 zf1 zc2 zf2 zc3 zf3 zc4 zf4 zc5 zf5 zc6 zf6 zc7 zf7 zc8 zf8 zc9 zf9 zc10 zf10 zc11 zf11 zc12 zf12 zc13 zf13
          obtain ⟨hq1_, hq2_, hs_⟩ := st14_0_14 HB.out GE8.out BK8.out (.int .u8 0) (.int .i64 0) (.int .i64 0) (.int .i64 0) (.slice none 0 0) (.slice none 0 0) (.bool false) (.int .u8 0) (.int .i64 0) (.int .i64 0) (.int .i64 0) (.slice none 0 0) (.slice none 0 0) (.bool false)
          generalize ((((((((((((((w10.setCell ⟨gb8, 0, none⟩ (.int .u8 0)).setCell ⟨gb8, 1, none⟩ (.int .i64 0)).setCell ⟨gb8, 2, none⟩ (.int .i64 0)).setCell ⟨gb8, 3, none⟩ (.int .i64 0)).setCell ⟨gb8, 4, none⟩ (.slice none 0 0)).setCell ⟨gb8, 5, none⟩ (.slice none 0 0)).setCell ⟨gb8, 6, none⟩ (.bool false)).setCell ⟨gb8, 7, none⟩ (.int .u8 0)).setCell ⟨gb8, 8, none⟩ (.int .i64 0)).setCell ⟨gb8, 9, none⟩ (.int .i64 0)).setCell ⟨gb8, 10, none⟩ (.int .i64 0)).setCell ⟨gb8, 11, none⟩ (.slice none 0 0)).setCell ⟨gb8, 12, none⟩ (.slice none 0 0)).setCell ⟨gb8, 13, none⟩ (.bool false)) = wz at hs_ hq1_ hq2_ ⊢
          replace BK8 := Lib.hid hq1_
          replace HB := Lib.hid hq2_
          clear hs_ hq1_ hq2_
          refine bodyPost_ret (results_ct rfl _ _ gb8 62 #[.int .u8 0, .int .i64 0, .int .i64 0, .int .i64 0, .slice none 0 0, .slice none 0 0, .bool false, .int .u8 0, .int .i64 0, .int .i64 0, .int .i64 0, .slice none 0 0, .slice none 0 0, .bool false] (0, 0) _ rfl BK8.out Try.underlying62 rfl (by kernel_rfl)) rfl ?_
          exact ⟨_, _, _, _, rfl, Kd.R_nil _ _ _ _ _, Kd.R_nil _ _ _ _ _, Kd.R_nil _ _ _ _ _, Kd.R_nil _ _ _ _ _, HB.out⟩
  | true =>
    obtain ⟨zc0, zc1, zc2, zc3, zc4, zc5, zc6, zc7, zc8, zc9, zc10, zc11, zc12, zc13, zf0, zf1, zf2, zf3, zf4, zf5, zf6, zf7, zf8, zf9, zf10, zf11, zf12, zf13⟩ := cs14 BK8.out
    go_upto_region 11 with fail
    clear zc0 zf0 zc1 zf1 zc2 zf2 zc3 zf3 zc4 zf4 zc5 zf5 zc6 zf6 zc7 zf7 zc8 zf8 zc9 zf9 zc10 zf10 zc11 zf11 zc12 zf12 zc13 zf13
    obtain ⟨hq1_, hq2_, hs_⟩ := st14_6_1 HB.out GE8.out BK8.out (.bool (p2 == index))
    generalize (w6.setCell ⟨gb8, 6, none⟩ (.bool (p2 == index))) = w7 at hs_ hq1_ hq2_ ⊢
    replace RU4 := Lib.hid (Kd.R_mono (Kd.R_step (Kd.R_types RU4.out BK8.out (by decide)) (fun k hk _ => hs_ k hk.2)) (ok' := fun _ => True) (fun _ _ => trivial))
    replace RU5 := Lib.hid (Kd.R_mono (Kd.R_step (Kd.R_types RU5.out BK8.out (by decide)) (fun k hk _ => hs_ k hk.2)) (ok' := fun _ => True) (fun _ _ => trivial))
    replace BK4 := Lib.hid ((hs_ gb4 NB4_8.out).trans BK4.out)
    replace BK5 := Lib.hid ((hs_ gb5 NB5_8.out).trans BK5.out)
    replace BK8 := Lib.hid hq1_
    replace HB := Lib.hid hq2_
    clear hs_ hq1_ hq2_
    obtain ⟨pc0, pc1, pc2, pc3, pf0, pf1, pf2, pf3⟩ := cs4 BK4.out
    go_wp2_with fail
    rw [rounds_succ]
    go_wp2_with fail
    clear pc0 pf0 pc1 pf1 pc2 pf2 pc3 pf3
    refine (slot_Parse.calls k a0 a1 a2 a3 _ _ l1 q1 q2 q3 q4 q5 q6 q7 qe _ (Kd.C_below HR1.out HB.out) HC1.out HQ.out).mono ?_
    rintro en w8 ⟨v4, v5, rfl, ho4, ho5, hb⟩
    have RV4 := Lib.hid (Kd.R_lower ho4 (below_size HB.out))
    have RV5 := Lib.hid (Kd.R_lower ho5 (below_size HB.out))
    clear ho4 ho5 HQ
    replace BK4 := Lib.hid (blk_below BK4.out hb)
    replace BK5 := Lib.hid (blk_below BK5.out hb)
    replace BK8 := Lib.hid (blk_below BK8.out hb)
    replace RU4 := Lib.hid (Kd.R_below RU4.out hb)
    replace RU5 := Lib.hid (Kd.R_below RU5.out hb)
    replace HB := Lib.hid (below_step HB.out hb)
    clear hb
    obtain ⟨Y4, y4, rfl⟩ := Kd.R_slice RV4.out
    obtain ⟨Y5, y5, rfl⟩ := Kd.R_slice RV5.out
    obtain ⟨zc0, zc1, zc2, zc3, zc4, zc5, zc6, zc7, zc8, zc9, zc10, zc11, zc12, zc13, zf0, zf1, zf2, zf3, zf4, zf5, zf6, zf7, zf8, zf9, zf10, zf11, zf12, zf13⟩ := cs14 BK8.out
    by_cases hez : qe = 0
    case neg =>
      have h := H.out
      simp only [if_neg hez, cell_look.zero, Option.some.injEq, Prod.mk.injEq] at h
      obtain ⟨rfl, rfl, rfl, rfl, rfl, rfl, rfl, rfl, rfl, rfl, rfl, rfl, rfl, rfl, rfl⟩ := h
      have hd1 : (qe != 0) = true := bne_iff_ne.mpr hez
      clear H
      go_upto_region 9 with fail
      clear zc0 zf0 zc1 zf1 zc2 zf2 zc3 zf3 zc4 zf4 zc5 zf5 zc6 zf6 zc7 zf7 zc8 zf8 zc9 zf9 zc10 zf10 zc11 zf11 zc12 zf12 zc13 zf13
      obtain ⟨hq1_, hq2_, hs_⟩ := st14_7_7 HB.out GE8.out BK8.out (.int .u8 q1) (.int .i64 q2) (.int .i64 q3) (.int .i64 q4) (.slice Y4 q5.length y4) (.slice Y5 q6.length y5) (.bool q7)
      generalize (((((((w8.setCell ⟨gb8, 7, none⟩ (.int .u8 q1)).setCell ⟨gb8, 8, none⟩ (.int .i64 q2)).setCell ⟨gb8, 9, none⟩ (.int .i64 q3)).setCell ⟨gb8, 10, none⟩ (.int .i64 q4)).setCell ⟨gb8, 11, none⟩ (.slice Y4 q5.length y4)).setCell ⟨gb8, 12, none⟩ (.slice Y5 q6.length y5)).setCell ⟨gb8, 13, none⟩ (.bool q7)) = w9 at hs_ hq1_ hq2_ ⊢
      replace RU4 := Lib.hid (Kd.R_mono (Kd.R_step (Kd.R_types RU4.out BK8.out (by decide)) (fun k hk _ => hs_ k hk.2)) (ok' := fun _ => True) (fun _ _ => trivial))
      replace RU5 := Lib.hid (Kd.R_mono (Kd.R_step (Kd.R_types RU5.out BK8.out (by decide)) (fun k hk _ => hs_ k hk.2)) (ok' := fun _ => True) (fun _ _ => trivial))
      replace RV4 := Lib.hid (Kd.R_mono (Kd.R_step (Kd.R_types RV4.out BK8.out (by decide)) (fun k hk _ => hs_ k hk.2)) (ok' := fun _ => True) (fun _ _ => trivial))
      replace RV5 := Lib.hid (Kd.R_mono (Kd.R_step (Kd.R_types RV5.out BK8.out (by decide)) (fun k hk _ => hs_ k hk.2)) (ok' := fun _ => True) (fun _ _ => trivial))
      replace BK4 := Lib.hid ((hs_ gb4 NB4_8.out).trans BK4.out)
      replace BK5 := Lib.hid ((hs_ gb5 NB5_8.out).trans BK5.out)
      replace BK8 := Lib.hid hq1_
      replace HB := Lib.hid hq2_
      clear hs_ hq1_ hq2_
      obtain ⟨zc0, zc1, zc2, zc3, zc4, zc5, zc6, zc7, zc8, zc9, zc10, zc11, zc12, zc13, zf0, zf1, zf2, zf3, zf4, zf5, zf6, zf7, zf8, zf9, zf10, zf11, zf12, zf13⟩ := cs14 BK8.out
      go_wp2_with fail
      clear zc0 zf0 zc1 zf1 zc2 zf2 zc3 zf3 zc4 zf4 zc5 zf5 zc6 zf6 zc7 zf7 zc8 zf8 zc9 zf9 zc10 zf10 zc11 zf11 zc12 zf12 zc13 zf13
      obtain ⟨hq1_, hq2_, hs_⟩ := st14_0_14 HB.out GE8.out BK8.out (.int .u8 0) (.int .i64 0) (.int .i64 0) (.int .i64 0) (.slice none 0 0) (.slice none 0 0) (.bool false) (.int .u8 0) (.int .i64 0) (.int .i64 0) (.int .i64 0) (.slice none 0 0) (.slice none 0 0) (.bool false)
      generalize ((((((((((((((w9.setCell ⟨gb8, 0, none⟩ (.int .u8 0)).setCell ⟨gb8, 1, none⟩ (.int .i64 0)).setCell ⟨gb8, 2, none⟩ (.int .i64 0)).setCell ⟨gb8, 3, none⟩ (.int .i64 0)).setCell ⟨gb8, 4, none⟩ (.slice none 0 0)).setCell ⟨gb8, 5, none⟩ (.slice none 0 0)).setCell ⟨gb8, 6, none⟩ (.bool false)).setCell ⟨gb8, 7, none⟩ (.int .u8 0)).setCell ⟨gb8, 8, none⟩ (.int .i64 0)).setCell ⟨gb8, 9, none⟩ (.int .i64 0)).setCell ⟨gb8, 10, none⟩ (.int .i64 0)).setCell ⟨gb8, 11, none⟩ (.slice none 0 0)).setCell ⟨gb8, 12, none⟩ (.slice none 0 0)).setCell ⟨gb8, 13, none⟩ (.bool false)) = wz at hs_ hq1_ hq2_ ⊢
      replace BK8 := Lib.hid hq1_
      replace HB := Lib.hid hq2_
      clear hs_ hq1_ hq2_
      refine bodyPost_ret (results_ct rfl _ _ gb8 62 #[.int .u8 0, .int .i64 0, .int .i64 0, .int .i64 0, .slice none 0 0, .slice none 0 0, .bool false, .int .u8 0, .int .i64 0, .int .i64 0, .int .i64 0, .slice none 0 0, .slice none 0 0, .bool false] (0, 0) _ rfl BK8.out Try.underlying62 rfl (by kernel_rfl)) rfl ?_
      exact ⟨_, _, _, _, rfl, Kd.R_nil _ _ _ _ _, Kd.R_nil _ _ _ _ _, Kd.R_nil _ _ _ _ _, Kd.R_nil _ _ _ _ _, HB.out⟩
    subst hez
    have h := H.out
    simp only [if_true] at h
    replace H := Lib.hid h
    clear h
    go_upto_region 10 with fail
    clear zc0 zf0 zc1 zf1 zc2 zf2 zc3 zf3 zc4 zf4 zc5 zf5 zc6 zf6 zc7 zf7 zc8 zf8 zc9 zf9 zc10 zf10 zc11 zf11 zc12 zf12 zc13 zf13
    obtain ⟨hq1_, hq2_, hs_⟩ := st14_7_7 HB.out GE8.out BK8.out (.int .u8 q1) (.int .i64 q2) (.int .i64 q3) (.int .i64 q4) (.slice Y4 q5.length y4) (.slice Y5 q6.length y5) (.bool q7)
    generalize (((((((w8.setCell ⟨gb8, 7, none⟩ (.int .u8 q1)).setCell ⟨gb8, 8, none⟩ (.int .i64 q2)).setCell ⟨gb8, 9, none⟩ (.int .i64 q3)).setCell ⟨gb8, 10, none⟩ (.int .i64 q4)).setCell ⟨gb8, 11, none⟩ (.slice Y4 q5.length y4)).setCell ⟨gb8, 12, none⟩ (.slice Y5 q6.length y5)).setCell ⟨gb8, 13, none⟩ (.bool q7)) = w9 at hs_ hq1_ hq2_ ⊢
    replace RU4 := Lib.hid (Kd.R_mono (Kd.R_step (Kd.R_types RU4.out BK8.out (by decide)) (fun k hk _ => hs_ k hk.2)) (ok' := fun _ => True) (fun _ _ => trivial))
    replace RU5 := Lib.hid (Kd.R_mono (Kd.R_step (Kd.R_types RU5.out BK8.out (by decide)) (fun k hk _ => hs_ k hk.2)) (ok' := fun _ => True) (fun _ _ => trivial))
    replace RV4 := Lib.hid (Kd.R_mono (Kd.R_step (Kd.R_types RV4.out BK8.out (by decide)) (fun k hk _ => hs_ k hk.2)) (ok' := fun _ => True) (fun _ _ => trivial))
    replace RV5 := Lib.hid (Kd.R_mono (Kd.R_step (Kd.R_types RV5.out BK8.out (by decide)) (fun k hk _ => hs_ k hk.2)) (ok' := fun _ => True) (fun _ _ => trivial))
    replace BK4 := Lib.hid ((hs_ gb4 NB4_8.out).trans BK4.out)
    replace BK5 := Lib.hid ((hs_ gb5 NB5_8.out).trans BK5.out)
    replace BK8 := Lib.hid hq1_
    replace HB := Lib.hid hq2_
    clear hs_ hq1_ hq2_
    cases q7 with
    | false =>
      obtain ⟨zc0, zc1, zc2, zc3, zc4, zc5, zc6, zc7, zc8, zc9, zc10, zc11, zc12, zc13, zf0, zf1, zf2, zf3, zf4, zf5, zf6, zf7, zf8, zf9, zf10, zf11, zf12, zf13⟩ := cs14 BK8.out
      go_upto_region 11 with fail
      clear zc0 zf0 zc1 zf1 zc2 zf2 zc3 zf3 zc4 zf4 zc5 zf5 zc6 zf6 zc7 zf7 zc8 zf8 zc9 zf9 zc10 zf10 zc11 zf11 zc12 zf12 zc13 zf13
      obtain ⟨hq1_, hq2_, hs_⟩ := st14_13_1 HB.out GE8.out BK8.out (.bool false)
      generalize (w9.setCell ⟨gb8, 13, none⟩ (.bool false)) = w10 at hs_ hq1_ hq2_ ⊢
      replace RU4 := Lib.hid (Kd.R_mono (Kd.R_step (Kd.R_types RU4.out BK8.out (by decide)) (fun k hk _ => hs_ k hk.2)) (ok' := fun _ => True) (fun _ _ => trivial))
      replace RU5 := Lib.hid (Kd.R_mono (Kd.R_step (Kd.R_types RU5.out BK8.out (by decide)) (fun k hk _ => hs_ k hk.2)) (ok' := fun _ => True) (fun _ _ => trivial))
      replace RV4 := Lib.hid (Kd.R_mono (Kd.R_step (Kd.R_types RV4.out BK8.out (by decide)) (fun k hk _ => hs_ k hk.2)) (ok' := fun _ => True) (fun _ _ => trivial))
      replace RV5 := Lib.hid (Kd.R_mono (Kd.R_step (Kd.R_types RV5.out BK8.out (by decide)) (fun k hk _ => hs_ k hk.2)) (ok' := fun _ => True) (fun _ _ => trivial))
      replace BK4 := Lib.hid ((hs_ gb4 NB4_8.out).trans BK4.out)
      replace BK5 := Lib.hid ((hs_ gb5 NB5_8.out).trans BK5.out)
      replace BK8 := Lib.hid hq1_
      replace HB := Lib.hid hq2_
      clear hs_ hq1_ hq2_
      go_wp2_with fail
      rw [rounds_succ]
      obtain ⟨zc0, zc1, zc2, zc3, zc4, zc5, zc6, zc7, zc8, zc9, zc10, zc11, zc12, zc13, zf0, zf1, zf2, zf3, zf4, zf5, zf6, zf7, zf8, zf9, zf10, zf11, zf12, zf13⟩ := cs14 BK8.out
      by_cases hk1 : kind = 1
      · have hb1 : (kind != 1) = false := bne_eq_false_iff_eq.mpr hk1
        by_cases hi0 : index < 0
        · have hb3 : decide (index < 0) = true := decide_eq_true hi0
          have h := H.out
          rw [if_pos (show (kind ≠ 1 ∧ kind ≠ 2) ∨ index < 0 ∨ index ≥ n by omega)] at h
          simp only [cell_look.zero, Option.some.injEq, Prod.mk.injEq] at h
          obtain ⟨rfl, rfl, rfl, rfl, rfl, rfl, rfl, rfl, rfl, rfl, rfl, rfl, rfl, rfl, rfl⟩ := h
          clear H
          go_wp2_with fail
          clear zc0 zf0 zc1 zf1 zc2 zf2 zc3 zf3 zc4 zf4 zc5 zf5 zc6 zf6 zc7 zf7 zc8 zf8 zc9 zf9 zc10 zf10 zc11 zf11 zc12 zf12 zc13 zf13
          obtain ⟨hq1_, hq2_, hs_⟩ := st14_0_14 HB.out GE8.out BK8.out (.int .u8 0) (.int .i64 0) (.int .i64 0) (.int .i64 0) (.slice none 0 0) (.slice none 0 0) (.bool false) (.int .u8 0) (.int .i64 0) (.int .i64 0) (.int .i64 0) (.slice none 0 0) (.slice none 0 0) (.bool false)
          generalize ((((((((((((((w10.setCell ⟨gb8, 0, none⟩ (.int .u8 0)).setCell ⟨gb8, 1, none⟩ (.int .i64 0)).setCell ⟨gb8, 2, none⟩ (.int .i64 0)).setCell ⟨gb8, 3, none⟩ (.int .i64 0)).setCell ⟨gb8, 4, none⟩ (.slice none 0 0)).setCell ⟨gb8, 5, none⟩ (.slice none 0 0)).setCell ⟨gb8, 6, none⟩ (.bool false)).setCell ⟨gb8, 7, none⟩ (.int .u8 0)).setCell ⟨gb8, 8, none⟩ (.int .i64 0)).setCell ⟨gb8, 9, none⟩ (.int .i64 0)).setCell ⟨gb8, 10, none⟩ (.int .i64 0)).setCell ⟨gb8, 11, none⟩ (.slice none 0 0)).setCell ⟨gb8, 12, none⟩ (.slice none 0 0)).setCell ⟨gb8, 13, none⟩ (.bool false)) = wz at hs_ hq1_ hq2_ ⊢
          replace BK8 := Lib.hid hq1_
          replace HB := Lib.hid hq2_
          clear hs_ hq1_ hq2_
          refine bodyPost_ret (results_ct rfl _ _ gb8 62 #[.int .u8 0, .int .i64 0, .int .i64 0, .int .i64 0, .slice none 0 0, .slice none 0 0, .bool false, .int .u8 0, .int .i64 0, .int .i64 0, .int .i64 0, .slice none 0 0, .slice none 0 0, .bool false] (0, 0) _ rfl BK8.out Try.underlying62 rfl (by kernel_rfl)) rfl ?_
          exact ⟨_, _, _, _, rfl, Kd.R_nil _ _ _ _ _, Kd.R_nil _ _ _ _ _, Kd.R_nil _ _ _ _ _, Kd.R_nil _ _ _ _ _, HB.out⟩
        · have hb3 : decide (index < 0) = false := decide_eq_false hi0
          by_cases hi1 : index ≥ n
          · have hb4 : decide (index ≥ n) = true := decide_eq_true hi1
            have hb5 : decide (n ≤ index) = true := decide_eq_true hi1
            have h := H.out
            rw [if_pos (show (kind ≠ 1 ∧ kind ≠ 2) ∨ index < 0 ∨ index ≥ n by omega)] at h
            simp only [cell_look.zero, Option.some.injEq, Prod.mk.injEq] at h
            obtain ⟨rfl, rfl, rfl, rfl, rfl, rfl, rfl, rfl, rfl, rfl, rfl, rfl, rfl, rfl, rfl⟩ := h
            clear H
            go_wp2_with fail
            clear zc0 zf0 zc1 zf1 zc2 zf2 zc3 zf3 zc4 zf4 zc5 zf5 zc6 zf6 zc7 zf7 zc8 zf8 zc9 zf9 zc10 zf10 zc11 zf11 zc12 zf12 zc13 zf13
            obtain ⟨hq1_, hq2_, hs_⟩ := st14_0_14 HB.out GE8.out BK8.out (.int .u8 0) (.int .i64 0) (.int .i64 0) (.int .i64 0) (.slice none 0 0) (.slice none 0 0) (.bool false) (.int .u8 0) (.int .i64 0) (.int .i64 0) (.int .i64 0) (.slice none 0 0) (.slice none 0 0) (.bool false)
            generalize ((((((((((((((w10.setCell ⟨gb8, 0, none⟩ (.int .u8 0)).setCell ⟨gb8, 1, none⟩ (.int .i64 0)).setCell ⟨gb8, 2, none⟩ (.int .i64 0)).setCell ⟨gb8, 3, none⟩ (.int .i64 0)).setCell ⟨gb8, 4, none⟩ (.slice none 0 0)).setCell ⟨gb8, 5, none⟩ (.slice none 0 0)).setCell ⟨gb8, 6, none⟩ (.bool false)).setCell ⟨gb8, 7, none⟩ (.int .u8 0)).setCell ⟨gb8, 8, none⟩ (.int .i64 0)).setCell ⟨gb8, 9, none⟩ (.int .i64 0)).setCell ⟨gb8, 10, none⟩ (.int .i64 0)).setCell ⟨gb8, 11, none⟩ (.slice none 0 0)).setCell ⟨gb8, 12, none⟩ (.slice none 0 0)).setCell ⟨gb8, 13, none⟩ (.bool false)) = wz at hs_ hq1_ hq2_ ⊢
            replace BK8 := Lib.hid hq1_
            replace HB := Lib.hid hq2_
            clear hs_ hq1_ hq2_
            refine bodyPost_ret (results_ct rfl _ _ gb8 62 #[.int .u8 0, .int .i64 0, .int .i64 0, .int .i64 0, .slice none 0 0, .slice none 0 0, .bool false, .int .u8 0, .int .i64 0, .int .i64 0, .int .i64 0, .slice none 0 0, .slice none 0 0, .bool false] (0, 0) _ rfl BK8.out Try.underlying62 rfl (by kernel_rfl)) rfl ?_
            exact ⟨_, _, _, _, rfl, Kd.R_nil _ _ _ _ _, Kd.R_nil _ _ _ _ _, Kd.R_nil _ _ _ _ _, Kd.R_nil _ _ _ _ _, HB.out⟩
          · have hb4 : decide (index ≥ n) = false := decide_eq_false hi1
            have hb5 : decide (n ≤ index) = false := decide_eq_false hi1
            have h := H.out
            rw [if_neg (show ¬ ((kind ≠ 1 ∧ kind ≠ 2) ∨ index < 0 ∨ index ≥ n) by omega)] at h
            simp only [Option.some.injEq, Prod.mk.injEq] at h
            obtain ⟨rfl, rfl, rfl, rfl, rfl, rfl, rfl, rfl, rfl, rfl, rfl, rfl, rfl, rfl, rfl⟩ := h
            clear H
            go_wp2_with fail
            clear zc0 zf0 zc1 zf1 zc2 zf2 zc3 zf3 zc4 zf4 zc5 zf5 zc6 zf6 zc7 zf7 zc8 zf8 zc9 zf9 zc10 zf10 zc11 zf11 zc12 zf12 zc13 zf13
            obtain ⟨hq1_, hq2_, hs_⟩ := st14_0_14 HB.out GE8.out BK8.out (.int .u8 p1) (.int .i64 p2) (.int .i64 p3) (.int .i64 p4) (.slice X4 p5.length x4) (.slice X5 p6.length x5) (.bool (p2 == index)) (.int .u8 q1) (.int .i64 q2) (.int .i64 q3) (.int .i64 q4) (.slice Y4 q5.length y4) (.slice Y5 q6.length y5) (.bool false)
            generalize ((((((((((((((w10.setCell ⟨gb8, 0, none⟩ (.int .u8 p1)).setCell ⟨gb8, 1, none⟩ (.int .i64 p2)).setCell ⟨gb8, 2, none⟩ (.int .i64 p3)).setCell ⟨gb8, 3, none⟩ (.int .i64 p4)).setCell ⟨gb8, 4, none⟩ (.slice X4 p5.length x4)).setCell ⟨gb8, 5, none⟩ (.slice X5 p6.length x5)).setCell ⟨gb8, 6, none⟩ (.bool (p2 == index))).setCell ⟨gb8, 7, none⟩ (.int .u8 q1)).setCell ⟨gb8, 8, none⟩ (.int .i64 q2)).setCell ⟨gb8, 9, none⟩ (.int .i64 q3)).setCell ⟨gb8, 10, none⟩ (.int .i64 q4)).setCell ⟨gb8, 11, none⟩ (.slice Y4 q5.length y4)).setCell ⟨gb8, 12, none⟩ (.slice Y5 q6.length y5)).setCell ⟨gb8, 13, none⟩ (.bool false)) = w11 at hs_ hq1_ hq2_ ⊢
            replace RU4 := Lib.hid (Kd.R_mono (Kd.R_step (Kd.R_types RU4.out BK8.out (by decide)) (fun k hk _ => hs_ k hk.2)) (ok' := fun _ => True) (fun _ _ => trivial))
            replace RU5 := Lib.hid (Kd.R_mono (Kd.R_step (Kd.R_types RU5.out BK8.out (by decide)) (fun k hk _ => hs_ k hk.2)) (ok' := fun _ => True) (fun _ _ => trivial))
            replace RV4 := Lib.hid (Kd.R_mono (Kd.R_step (Kd.R_types RV4.out BK8.out (by decide)) (fun k hk _ => hs_ k hk.2)) (ok' := fun _ => True) (fun _ _ => trivial))
            replace RV5 := Lib.hid (Kd.R_mono (Kd.R_step (Kd.R_types RV5.out BK8.out (by decide)) (fun k hk _ => hs_ k hk.2)) (ok' := fun _ => True) (fun _ _ => trivial))
            replace BK8 := Lib.hid hq1_
            replace HB := Lib.hid hq2_
            clear hs_ hq1_ hq2_
            refine bodyPost_ret (results_ct rfl _ _ gb8 62 #[.int .u8 p1, .int .i64 p2, .int .i64 p3, .int .i64 p4, .slice X4 p5.length x4, .slice X5 p6.length x5, .bool (p2 == index), .int .u8 q1, .int .i64 q2, .int .i64 q3, .int .i64 q4, .slice Y4 q5.length y4, .slice Y5 q6.length y5, .bool false] (0, 0) _ rfl BK8.out Try.underlying62 rfl (by kernel_rfl)) rfl ?_
            exact ⟨_, _, _, _, rfl, RU4.out, RU5.out, RV4.out, RV5.out, HB.out⟩
      · have hb1 : (kind != 1) = true := bne_iff_ne.mpr hk1
        by_cases hk2 : kind = 2
        · have hb2 : (kind != 2) = false := bne_eq_false_iff_eq.mpr hk2
          by_cases hi0 : index < 0
          · have hb3 : decide (index < 0) = true := decide_eq_true hi0
            have h := H.out
            rw [if_pos (show (kind ≠ 1 ∧ kind ≠ 2) ∨ index < 0 ∨ index ≥ n by omega)] at h
            simp only [cell_look.zero, Option.some.injEq, Prod.mk.injEq] at h
            obtain ⟨rfl, rfl, rfl, rfl, rfl, rfl, rfl, rfl, rfl, rfl, rfl, rfl, rfl, rfl, rfl⟩ := h
            clear H
            go_wp2_with fail
            clear zc0 zf0 zc1 zf1 zc2 zf2 zc3 zf3 zc4 zf4 zc5 zf5 zc6 zf6 zc7 zf7 zc8 zf8 zc9 zf9 zc10 zf10 zc11 zf11 zc12 zf12 zc13 zf13
            obtain ⟨hq1_, hq2_, hs_⟩ := st14_0_14 HB.out GE8.out BK8.out (.int .u8 0) (.int .i64 0) (.int .i64 0) (.int .i64 0) (.slice none 0 0) (.slice none 0 0) (.bool false) (.int .u8 0) (.int .i64 0) (.int .i64 0) (.int .i64 0) (.slice none 0 0) (.slice none 0 0) (.bool false)
            generalize ((((((((((((((w10.setCell ⟨gb8, 0, none⟩ (.int .u8 0)).setCell ⟨gb8, 1, none⟩ (.int .i64 0)).setCell ⟨gb8, 2, none⟩ (.int .i64 0)).setCell ⟨gb8, 3, none⟩ (.int .i64 0)).setCell ⟨gb8, 4, none⟩ (.slice none 0 0)).setCell ⟨gb8, 5, none⟩ (.slice none 0 0)).setCell ⟨gb8, 6, none⟩ (.bool false)).setCell ⟨gb8, 7, none⟩ (.int .u8 0)).setCell ⟨gb8, 8, none⟩ (.int .i64 0)).setCell ⟨gb8, 9, none⟩ (.int .i64 0)).setCell ⟨gb8, 10, none⟩ (.int .i64 0)).setCell ⟨gb8, 11, none⟩ (.slice none 0 0)).setCell ⟨gb8, 12, none⟩ (.slice none 0 0)).setCell ⟨gb8, 13, none⟩ (.bool false)) = wz at hs_ hq1_ hq2_ ⊢
            replace BK8 := Lib.hid hq1_
            replace HB := Lib.hid hq2_
            clear hs_ hq1_ hq2_
            refine bodyPost_ret (results_ct rfl _ _ gb8 62 #[.int .u8 0, .int .i64 0, .int .i64 0, .int .i64 0, .slice none 0 0, .slice none 0 0, .bool false, .int .u8 0, .int .i64 0, .int .i64 0, .int .i64 0, .slice none 0 0, .slice none 0 0, .bool false] (0, 0) _ rfl BK8.out Try.underlying62 rfl (by kernel_rfl)) rfl ?_
            exact ⟨_, _, _, _, rfl, Kd.R_nil _ _ _ _ _, Kd.R_nil _ _ _ _ _, Kd.R_nil _ _ _ _ _, Kd.R_nil _ _ _ _ _, HB.out⟩
          · have hb3 : decide (index < 0) = false := decide_eq_false hi0
            by_cases hi1 : index ≥ n
            · have hb4 : decide (index ≥ n) = true := decide_eq_true hi1
              have hb5 : decide (n ≤ index) = true := decide_eq_true hi1
              have h := H.out
              rw [if_pos (show (kind ≠ 1 ∧ kind ≠ 2) ∨ index < 0 ∨ index ≥ n by omega)] at h
              simp only [cell_look.zero, Option.some.injEq, Prod.mk.injEq] at h
              obtain ⟨rfl, rfl, rfl, rfl, rfl, rfl, rfl, rfl, rfl, rfl, rfl, rfl, rfl, rfl, rfl⟩ := h
              clear H
              go_wp2_with fail
              clear zc0 zf0 zc1 zf1 zc2 zf2 zc3 zf3 zc4 zf4 zc5 zf5 zc6 zf6 zc7 zf7 zc8 zf8 zc9 zf9 zc10 zf10 zc11 zf11 zc12 zf12 zc13 zf13
              obtain ⟨hq1_, hq2_, hs_⟩ := st14_0_14 HB.out GE8.out BK8.out (.int .u8 0) (.int .i64 0) (.int .i64 0) (.int .i64 0) (.slice none 0 0) (.slice none 0 0) (.bool false) (.int .u8 0) (.int .i64 0) (.int .i64 0) (.int .i64 0) (.slice none 0 0) (.slice none 0 0) (.bool false)
              generalize ((((((((((((((w10.setCell ⟨gb8, 0, none⟩ (.int .u8 0)).setCell ⟨gb8, 1, none⟩ (.int .i64 0)).setCell ⟨gb8, 2, none⟩ (.int .i64 0)).setCell ⟨gb8, 3, none⟩ (.int .i64 0)).setCell ⟨gb8, 4, none⟩ (.slice none 0 0)).setCell ⟨gb8, 5, none⟩ (.slice none 0 0)).setCell ⟨gb8, 6, none⟩ (.bool false)).setCell ⟨gb8, 7, none⟩ (.int .u8 0)).setCell ⟨gb8, 8, none⟩ (.int .i64 0)).setCell ⟨gb8, 9, none⟩ (.int .i64 0)).setCell ⟨gb8, 10, none⟩ (.int .i64 0)).setCell ⟨gb8, 11, none⟩ (.slice none 0 0)).setCell ⟨gb8, 12, none⟩ (.slice none 0 0)).setCell ⟨gb8, 13, none⟩ (.bool false)) = wz at hs_ hq1_ hq2_ ⊢
              replace BK8 := Lib.hid hq1_
              replace HB := Lib.hid hq2_
              clear hs_ hq1_ hq2_
              refine bodyPost_ret (results_ct rfl _ _ gb8 62 #[.int .u8 0, .int .i64 0, .int .i64 0, .int .i64 0, .slice none 0 0, .slice none 0 0, .bool false, .int .u8 0, .int .i64 0, .int .i64 0, .int .i64 0, .slice none 0 0, .slice none 0 0, .bool false] (0, 0) _ rfl BK8.out Try.underlying62 rfl (by kernel_rfl)) rfl ?_
              exact ⟨_, _, _, _, rfl, Kd.R_nil _ _ _ _ _, Kd.R_nil _ _ _ _ _, Kd.R_nil _ _ _ _ _, Kd.R_nil _ _ _ _ _, HB.out⟩
            · have hb4 : decide (index ≥ n) = false := decide_eq_false hi1
              have hb5 : decide (n ≤ index) = false := decide_eq_false hi1
              have h := H.out
              rw [if_neg (show ¬ ((kind ≠ 1 ∧ kind ≠ 2) ∨ index < 0 ∨ index ≥ n) by omega)] at h
              simp only [Option.some.injEq, Prod.mk.injEq] at h
              obtain ⟨rfl, rfl, rfl, rfl, rfl, rfl, rfl, rfl, rfl, rfl, rfl, rfl, rfl, rfl, rfl⟩ := h
              clear H
              go_wp2_with fail
              clear zc0 zf0 zc1 zf1 zc2 zf2 zc3 zf3 zc4 zf4 zc5 zf5 zc6 zf6 zc7 zf7 zc8 zf8 zc9 zf9 zc10 zf10 zc11 zf11 zc12 zf12 zc13 zf13
              obtain ⟨hq1_, hq2_, hs_⟩ := st14_0_14 HB.out GE8.out BK8.out (.int .u8 p1) (.int .i64 p2) (.int .i64 p3) (.int .i64 p4) (.slice X4 p5.length x4) (.slice X5 p6.length x5) (.bool (p2 == index)) (.int .u8 q1) (.int .i64 q2) (.int .i64 q3) (.int .i64 q4) (.slice Y4 q5.length y4) (.slice Y5 q6.length y5) (.bool false)
              generalize ((((((((((((((w10.setCell ⟨gb8, 0, none⟩ (.int .u8 p1)).setCell ⟨gb8, 1, none⟩ (.int .i64 p2)).setCell ⟨gb8, 2, none⟩ (.int .i64 p3)).setCell ⟨gb8, 3, none⟩ (.int .i64 p4)).setCell ⟨gb8, 4, none⟩ (.slice X4 p5.length x4)).setCell ⟨gb8, 5, none⟩ (.slice X5 p6.length x5)).setCell ⟨gb8, 6, none⟩ (.bool (p2 == index))).setCell ⟨gb8, 7, none⟩ (.int .u8 q1)).setCell ⟨gb8, 8, none⟩ (.int .i64 q2)).setCell ⟨gb8, 9, none⟩ (.int .i64 q3)).setCell ⟨gb8, 10, none⟩ (.int .i64 q4)).setCell ⟨gb8, 11, none⟩ (.slice Y4 q5.length y4)).setCell ⟨gb8, 12, none⟩ (.slice Y5 q6.length y5)).setCell ⟨gb8, 13, none⟩ (.bool false)) = w11 at hs_ hq1_ hq2_ ⊢
              replace RU4 := Lib.hid (Kd.R_mono (Kd.R_step (Kd.R_types RU4.out BK8.out (by decide)) (fun k hk _ => hs_ k hk.2)) (ok' := fun _ => True) (fun _ _ => trivial))
              replace RU5 := Lib.hid (Kd.R_mono (Kd.R_step (Kd.R_types RU5.out BK8.out (by decide)) (fun k hk _ => hs_ k hk.2)) (ok' := fun _ => True) (fun _ _ => trivial))
              replace RV4 := Lib.hid (Kd.R_mono (Kd.R_step (Kd.R_types RV4.out BK8.out (by decide)) (fun k hk _ => hs_ k hk.2)) (ok' := fun _ => True) (fun _ _ => trivial))
              replace RV5 := Lib.hid (Kd.R_mono (Kd.R_step (Kd.R_types RV5.out BK8.out (by decide)) (fun k hk _ => hs_ k hk.2)) (ok' := fun _ => True) (fun _ _ => trivial))
              replace BK8 := Lib.hid hq1_
              replace HB := Lib.hid hq2_
              clear hs_ hq1_ hq2_
              refine bodyPost_ret (results_ct rfl _ _ gb8 62 #[.int .u8 p1, .int .i64 p2, .int .i64 p3, .int .i64 p4, .slice X4 p5.length x4, .slice X5 p6.length x5, .bool (p2 == index), .int .u8 q1, .int .i64 q2, .int .i64 q3, .int .i64 q4, .slice Y4 q5.length y4, .slice Y5 q6.length y5, .bool false] (0, 0) _ rfl BK8.out Try.underlying62 rfl (by kernel_rfl)) rfl ?_
              exact ⟨_, _, _, _, rfl, RU4.out, RU5.out, RV4.out, RV5.out, HB.out⟩
        · have hb2 : (kind != 2) = true := bne_iff_ne.mpr hk2
          have h := H.out
          rw [if_pos (show (kind ≠ 1 ∧ kind ≠ 2) ∨ index < 0 ∨ index ≥ n by omega)] at h
          simp only [cell_look.zero, Option.some.injEq, Prod.mk.injEq] at h
          obtain ⟨rfl, rfl, rfl, rfl, rfl, rfl, rfl, rfl, rfl, rfl, rfl, rfl, rfl, rfl, rfl⟩ := h
          clear H
          go_wp2_with fail
          clear zc0 zf0 zc1 zf1 zc2 zf2 zc3 zf3 zc4 zf4 zc5 zf5 zc6 zf6 zc7 zf7 zc8 zf8 zc9 zf9 zc10 zf10 zc11 zf11 zc12 zf12 zc13 zf13
          obtain ⟨hq1_, hq2_, hs_⟩ := st14_0_14 HB.out GE8.out BK8.out (.int .u8 0) (.int .i64 0) (.int .i64 0) (.int .i64 0) (.slice none 0 0) (.slice none 0 0) (.bool false) (.int .u8 0) (.int .i64 0) (.int .i64 0) (.int .i64 0) (.slice none 0 0) (.slice none 0 0) (.bool false)
          generalize ((((((((((((((w10.setCell ⟨gb8, 0, none⟩ (.int .u8 0)).setCell ⟨gb8, 1, none⟩ (.int .i64 0)).setCell ⟨gb8, 2, none⟩ (.int .i64 0)).setCell ⟨gb8, 3, none⟩ (.int .i64 0)).setCell ⟨gb8, 4, none⟩ (.slice none 0 0)).setCell ⟨gb8, 5, none⟩ (.slice none 0 0)).setCell ⟨gb8, 6, none⟩ (.bool false)).setCell ⟨gb8, 7, none⟩ (.int .u8 0)).setCell ⟨gb8, 8, none⟩ (.int .i64 0)).setCell ⟨gb8, 9, none⟩ (.int .i64 0)).setCell ⟨gb8, 10, none⟩ (.int .i64 0)).setCell ⟨gb8, 11, none⟩ (.slice none 0 0)).setCell ⟨gb8, 12, none⟩ (.slice none 0 0)).setCell ⟨gb8, 13, none⟩ (.bool false)) = wz at hs_ hq1_ hq2_ ⊢
          replace BK8 := Lib.hid hq1_
          replace HB := Lib.hid hq2_
          clear hs_ hq1_ hq2_
          refine bodyPost_ret (results_ct rfl _ _ gb8 62 #[.int .u8 0, .int .i64 0, .int .i64 0, .int .i64 0, .slice none 0 0, .slice none 0 0, .bool false, .int .u8 0, .int .i64 0, .int .i64 0, .int .i64 0, .slice none 0 0, .slice none 0 0, .bool false] (0, 0) _ rfl BK8.out Try.underlying62 rfl (by kernel_rfl)) rfl ?_
          exact ⟨_, _, _, _, rfl, Kd.R_nil _ _ _ _ _, Kd.R_nil _ _ _ _ _, Kd.R_nil _ _ _ _ _, Kd.R_nil _ _ _ _ _, HB.out⟩
    | true =>
      obtain ⟨zc0, zc1, zc2, zc3, zc4, zc5, zc6, zc7, zc8, zc9, zc10, zc11, zc12, zc13, zf0, zf1, zf2, zf3, zf4, zf5, zf6, zf7, zf8, zf9, zf10, zf11, zf12, zf13⟩ := cs14 BK8.out
      go_upto_region 11 with fail
      clear zc0 zf0 zc1 zf1 zc2 zf2 zc3 zf3 zc4 zf4 zc5 zf5 zc6 zf6 zc7 zf7 zc8 zf8 zc9 zf9 zc10 zf10 zc11 zf11 zc12 zf12 zc13 zf13
      obtain ⟨hq1_, hq2_, hs_⟩ := st14_13_1 HB.out GE8.out BK8.out (.bool (q2 == index))
      generalize (w9.setCell ⟨gb8, 13, none⟩ (.bool (q2 == index))) = w10 at hs_ hq1_ hq2_ ⊢
      replace RU4 := Lib.hid (Kd.R_mono (Kd.R_step (Kd.R_types RU4.out BK8.out (by decide)) (fun k hk _ => hs_ k hk.2)) (ok' := fun _ => True) (fun _ _ => trivial))
      replace RU5 := Lib.hid (Kd.R_mono (Kd.R_step (Kd.R_types RU5.out BK8.out (by decide)) (fun k hk _ => hs_ k hk.2)) (ok' := fun _ => True) (fun _ _ => trivial))
      replace RV4 := Lib.hid (Kd.R_mono (Kd.R_step (Kd.R_types RV4.out BK8.out (by decide)) (fun k hk _ => hs_ k hk.2)) (ok' := fun _ => True) (fun _ _ => trivial))
      replace RV5 := Lib.hid (Kd.R_mono (Kd.R_step (Kd.R_types RV5.out BK8.out (by decide)) (fun k hk _ => hs_ k hk.2)) (ok' := fun _ => True) (fun _ _ => trivial))
      replace BK4 := Lib.hid ((hs_ gb4 NB4_8.out).trans BK4.out)
      replace BK5 := Lib.hid ((hs_ gb5 NB5_8.out).trans BK5.out)
      replace BK8 := Lib.hid hq1_
      replace HB := Lib.hid hq2_
      clear hs_ hq1_ hq2_
      go_wp2_with fail
      rw [rounds_succ]
      obtain ⟨zc0, zc1, zc2, zc3, zc4, zc5, zc6, zc7, zc8, zc9, zc10, zc11, zc12, zc13, zf0, zf1, zf2, zf3, zf4, zf5, zf6, zf7, zf8, zf9, zf10, zf11, zf12, zf13⟩ := cs14 BK8.out
      by_cases hk1 : kind = 1
      · have hb1 : (kind != 1) = false := bne_eq_false_iff_eq.mpr hk1
        by_cases hi0 : index < 0
        · have hb3 : decide (index < 0) = true := decide_eq_true hi0
          have h := H.out
          rw [if_pos (show (kind ≠ 1 ∧ kind ≠ 2) ∨ index < 0 ∨ index ≥ n by omega)] at h
          simp only [cell_look.zero, Option.some.injEq, Prod.mk.injEq] at h
          obtain ⟨rfl, rfl, rfl, rfl, rfl, rfl, rfl, rfl, rfl, rfl, rfl, rfl, rfl, rfl, rfl⟩ := h
          clear H
          go_wp2_with fail
          clear zc0 zf0 zc1 zf1 zc2 zf2 zc3 zf3 zc4 zf4 zc5 zf5 zc6 zf6 zc7 zf7 zc8 zf8 zc9 zf9 zc10 zf10 zc11 zf11 zc12 zf12 zc13 zf13
          obtain ⟨hq1_, hq2_, hs_⟩ := st14_0_14 HB.out GE8.out BK8.out (.int .u8 0) (.int .i64 0) (.int .i64 0) (.int .i64 0) (.slice none 0 0) (.slice none 0 0) (.bool false) (.int .u8 0) (.int .i64 0) (.int .i64 0) (.int .i64 0) (.slice none 0 0) (.slice none 0 0) (.bool false)
          generalize ((((((((((((((w10.setCell ⟨gb8, 0, none⟩ (.int .u8 0)).setCell ⟨gb8, 1, none⟩ (.int .i64 0)).setCell ⟨gb8, 2, none⟩ (.int .i64 0)).setCell ⟨gb8, 3, none⟩ (.int .i64 0)).setCell ⟨gb8, 4, none⟩ (.slice none 0 0)).setCell ⟨gb8, 5, none⟩ (.slice none 0 0)).setCell ⟨gb8, 6, none⟩ (.bool false)).setCell ⟨gb8, 7, none⟩ (.int .u8 0)).setCell ⟨gb8, 8, none⟩ (.int .i64 0)).setCell ⟨gb8, 9, none⟩ (.int .i64 0)).setCell ⟨gb8, 10, none⟩ (.int .i64 0)).setCell ⟨gb8, 11, none⟩ (.slice none 0 0)).setCell ⟨gb8, 12, none⟩ (.slice none 0 0)).setCell ⟨gb8, 13, none⟩ (.bool false)) = wz at hs_ hq1_ hq2_ ⊢
          replace BK8 := Lib.hid hq1_
          replace HB := Lib.hid hq2_
          clear hs_ hq1_ hq2_
          refine bodyPost_ret (results_ct rfl _ _ gb8 62 #[.int .u8 0, .int .i64 0, .int .i64 0, .int .i64 0, .slice none 0 0, .slice none 0 0, .bool false, .int .u8 0, .int .i64 0, .int .i64 0, .int .i64 0, .slice none 0 0, .slice none 0 0, .bool false] (0, 0) _ rfl BK8.out Try.underlying62 rfl (by kernel_rfl)) rfl ?_
          exact ⟨_, _, _, _, rfl, Kd.R_nil _ _ _ _ _, Kd.R_nil _ _ _ _ _, Kd.R_nil _ _ _ _ _, Kd.R_nil _ _ _ _ _, HB.out⟩
        · have hb3 : decide (index < 0) = false := decide_eq_false hi0
          by_cases hi1 : index ≥ n
          · have hb4 : decide (index ≥ n) = true := decide_eq_true hi1
            have hb5 : decide (n ≤ index) = true := decide_eq_true hi1
            have h := H.out
            rw [if_pos (show (kind ≠ 1 ∧ kind ≠ 2) ∨ index < 0 ∨ index ≥ n by omega)] at h
            simp only [cell_look.zero, Option.some.injEq, Prod.mk.injEq] at h
            obtain ⟨rfl, rfl, rfl, rfl, rfl, rfl, rfl, rfl, rfl, rfl, rfl, rfl, rfl, rfl, rfl⟩ := h
            clear H
            go_wp2_with fail
            clear zc0 zf0 zc1 zf1 zc2 zf2 zc3 zf3 zc4 zf4 zc5 zf5 zc6 zf6 zc7 zf7 zc8 zf8 zc9 zf9 zc10 zf10 zc11 zf11 zc12 zf12 zc13 zf13
            obtain ⟨hq1_, hq2_, hs_⟩ := st14_0_14 HB.out GE8.out BK8.out (.int .u8 0) (.int .i64 0) (.int .i64 0) (.int .i64 0) (.slice none 0 0) (.slice none 0 0) (.bool false) (.int .u8 0) (.int .i64 0) (.int .i64 0) (.int .i64 0) (.slice none 0 0) (.slice none 0 0) (.bool false)
            generalize ((((((((((((((w10.setCell ⟨gb8, 0, none⟩ (.int .u8 0)).setCell ⟨gb8, 1, none⟩ (.int .i64 0)).setCell ⟨gb8, 2, none⟩ (.int .i64 0)).setCell ⟨gb8, 3, none⟩ (.int .i64 0)).setCell ⟨gb8, 4, none⟩ (.slice none 0 0)).setCell ⟨gb8, 5, none⟩ (.slice none 0 0)).setCell ⟨gb8, 6, none⟩ (.bool false)).setCell ⟨gb8, 7, none⟩ (.int .u8 0)).setCell ⟨gb8, 8, none⟩ (.int .i64 0)).setCell ⟨gb8, 9, none⟩ (.int .i64 0)).setCell ⟨gb8, 10, none⟩ (.int .i64 0)).setCell ⟨gb8, 11, none⟩ (.slice none 0 0)).setCell ⟨gb8, 12, none⟩ (.slice none 0 0)).setCell ⟨gb8, 13, none⟩ (.bool false)) = wz at hs_ hq1_ hq2_ ⊢
            replace BK8 := Lib.hid hq1_
            replace HB := Lib.hid hq2_
            clear hs_ hq1_ hq2_
            refine bodyPost_ret (results_ct rfl _ _ gb8 62 #[.int .u8 0, .int .i64 0, .int .i64 0, .int .i64 0, .slice none 0 0, .slice none 0 0, .bool false, .int .u8 0, .int .i64 0, .int .i64 0, .int .i64 0, .slice none 0 0, .slice none 0 0, .bool false] (0, 0) _ rfl BK8.out Try.underlying62 rfl (by kernel_rfl)) rfl ?_
            exact ⟨_, _, _, _, rfl, Kd.R_nil _ _ _ _ _, Kd.R_nil _ _ _ _ _, Kd.R_nil _ _ _ _ _, Kd.R_nil _ _ _ _ _, HB.out⟩
          · have hb4 : decide (index ≥ n) = false := decide_eq_false hi1
            have hb5 : decide (n ≤ index) = false := decide_eq_false hi1
            have h := H.out
            rw [if_neg (show ¬ ((kind ≠ 1 ∧ kind ≠ 2) ∨ index < 0 ∨ index ≥ n) by omega)] at h
            simp only [Option.some.injEq, Prod.mk.injEq] at h
            obtain ⟨rfl, rfl, rfl, rfl, rfl, rfl, rfl, rfl, rfl, rfl, rfl, rfl, rfl, rfl, rfl⟩ := h
            clear H
            go_wp2_with fail
            clear zc0 zf0 zc1 zf1 zc2 zf2 zc3 zf3 zc4 zf4 zc5 zf5 zc6 zf6 zc7 zf7 zc8 zf8 zc9 zf9 zc10 zf10 zc11 zf11 zc12 zf12 zc13 zf13
            obtain ⟨hq1_, hq2_, hs_⟩ := st14_0_14 HB.out GE8.out BK8.out (.int .u8 p1) (.int .i64 p2) (.int .i64 p3) (.int .i64 p4) (.slice X4 p5.length x4) (.slice X5 p6.length x5) (.bool (p2 == index)) (.int .u8 q1) (.int .i64 q2) (.int .i64 q3) (.int .i64 q4) (.slice Y4 q5.length y4) (.slice Y5 q6.length y5) (.bool (q2 == index))
            generalize ((((((((((((((w10.setCell ⟨gb8, 0, none⟩ (.int .u8 p1)).setCell ⟨gb8, 1, none⟩ (.int .i64 p2)).setCell ⟨gb8, 2, none⟩ (.int .i64 p3)).setCell ⟨gb8, 3, none⟩ (.int .i64 p4)).setCell ⟨gb8, 4, none⟩ (.slice X4 p5.length x4)).setCell ⟨gb8, 5, none⟩ (.slice X5 p6.length x5)).setCell ⟨gb8, 6, none⟩ (.bool (p2 == index))).setCell ⟨gb8, 7, none⟩ (.int .u8 q1)).setCell ⟨gb8, 8, none⟩ (.int .i64 q2)).setCell ⟨gb8, 9, none⟩ (.int .i64 q3)).setCell ⟨gb8, 10, none⟩ (.int .i64 q4)).setCell ⟨gb8, 11, none⟩ (.slice Y4 q5.length y4)).setCell ⟨gb8, 12, none⟩ (.slice Y5 q6.length y5)).setCell ⟨gb8, 13, none⟩ (.bool (q2 == index))) = w11 at hs_ hq1_ hq2_ ⊢
            replace RU4 := Lib.hid (Kd.R_mono (Kd.R_step (Kd.R_types RU4.out BK8.out (by decide)) (fun k hk _ => hs_ k hk.2)) (ok' := fun _ => True) (fun _ _ => trivial))
            replace RU5 := Lib.hid (Kd.R_mono (Kd.R_step (Kd.R_types RU5.out BK8.out (by decide)) (fun k hk _ => hs_ k hk.2)) (ok' := fun _ => True) (fun _ _ => trivial))
            replace RV4 := Lib.hid (Kd.R_mono (Kd.R_step (Kd.R_types RV4.out BK8.out (by decide)) (fun k hk _ => hs_ k hk.2)) (ok' := fun _ => True) (fun _ _ => trivial))
            replace RV5 := Lib.hid (Kd.R_mono (Kd.R_step (Kd.R_types RV5.out BK8.out (by decide)) (fun k hk _ => hs_ k hk.2)) (ok' := fun _ => True) (fun _ _ => trivial))
            replace BK8 := Lib.hid hq1_
            replace HB := Lib.hid hq2_
            clear hs_ hq1_ hq2_
            refine bodyPost_ret (results_ct rfl _ _ gb8 62 #[.int .u8 p1, .int .i64 p2, .int .i64 p3, .int .i64 p4, .slice X4 p5.length x4, .slice X5 p6.length x5, .bool (p2 == index), .int .u8 q1, .int .i64 q2, .int .i64 q3, .int .i64 q4, .slice Y4 q5.length y4, .slice Y5 q6.length y5, .bool (q2 == index)] (0, 0) _ rfl BK8.out Try.underlying62 rfl (by kernel_rfl)) rfl ?_
            exact ⟨_, _, _, _, rfl, RU4.out, RU5.out, RV4.out, RV5.out, HB.out⟩
      · have hb1 : (kind != 1) = true := bne_iff_ne.mpr hk1
        by_cases hk2 : kind = 2
        · have hb2 : (kind != 2) = false := bne_eq_false_iff_eq.mpr hk2
          by_cases hi0 : index < 0
          · have hb3 : decide (index < 0) = true := decide_eq_true hi0
            have h := H.out
            rw [if_pos (show (kind ≠ 1 ∧ kind ≠ 2) ∨ index < 0 ∨ index ≥ n by omega)] at h
            simp only [cell_look.zero, Option.some.injEq, Prod.mk.injEq] at h
            obtain ⟨rfl, rfl, rfl, rfl, rfl, rfl, rfl, rfl, rfl, rfl, rfl, rfl, rfl, rfl, rfl⟩ := h
            clear H
            go_wp2_with fail
            clear zc0 zf0 zc1 zf1 zc2 zf2 zc3 zf3 zc4 zf4 zc5 zf5 zc6 zf6 zc7 zf7 zc8 zf8 zc9 zf9 zc10 zf10 zc11 zf11 zc12 zf12 zc13 zf13
            obtain ⟨hq1_, hq2_, hs_⟩ := st14_0_14 HB.out GE8.out BK8.out (.int .u8 0) (.int .i64 0) (.int .i64 0) (.int .i64 0) (.slice none 0 0) (.slice none 0 0) (.bool false) (.int .u8 0) (.int .i64 0) (.int .i64 0) (.int .i64 0) (.slice none 0 0) (.slice none 0 0) (.bool false)
            generalize ((((((((((((((w10.setCell ⟨gb8, 0, none⟩ (.int .u8 0)).setCell ⟨gb8, 1, none⟩ (.int .i64 0)).setCell ⟨gb8, 2, none⟩ (.int .i64 0)).setCell ⟨gb8, 3, none⟩ (.int .i64 0)).setCell ⟨gb8, 4, none⟩ (.slice none 0 0)).setCell ⟨gb8, 5, none⟩ (.slice none 0 0)).setCell ⟨gb8, 6, none⟩ (.bool false)).setCell ⟨gb8, 7, none⟩ (.int .u8 0)).setCell ⟨gb8, 8, none⟩ (.int .i64 0)).setCell ⟨gb8, 9, none⟩ (.int .i64 0)).setCell ⟨gb8, 10, none⟩ (.int .i64 0)).setCell ⟨gb8, 11, none⟩ (.slice none 0 0)).setCell ⟨gb8, 12, none⟩ (.slice none 0 0)).setCell ⟨gb8, 13, none⟩ (.bool false)) = wz at hs_ hq1_ hq2_ ⊢
            replace BK8 := Lib.hid hq1_
            replace HB := Lib.hid hq2_
            clear hs_ hq1_ hq2_
            refine bodyPost_ret (results_ct rfl _ _ gb8 62 #[.int .u8 0, .int .i64 0, .int .i64 0, .int .i64 0, .slice none 0 0, .slice none 0 0, .bool false, .int .u8 0, .int .i64 0, .int .i64 0, .int .i64 0, .slice none 0 0, .slice none 0 0, .bool false] (0, 0) _ rfl BK8.out Try.underlying62 rfl (by kernel_rfl)) rfl ?_
            exact ⟨_, _, _, _, rfl, Kd.R_nil _ _ _ _ _, Kd.R_nil _ _ _ _ _, Kd.R_nil _ _ _ _ _, Kd.R_nil _ _ _ _ _, HB.out⟩
          · have hb3 : decide (index < 0) = false := decide_eq_false hi0
            by_cases hi1 : index ≥ n
            · have hb4 : decide (index ≥ n) = true := decide_eq_true hi1
              have hb5 : decide (n ≤ index) = true := decide_eq_true hi1
              have h := H.out
              rw [if_pos (show (kind ≠ 1 ∧ kind ≠ 2) ∨ index < 0 ∨ index ≥ n by omega)] at h
              simp only [cell_look.zero, Option.some.injEq, Prod.mk.injEq] at h
              obtain ⟨rfl, rfl, rfl, rfl, rfl, rfl, rfl, rfl, rfl, rfl, rfl, rfl, rfl, rfl, rfl⟩ := h
              clear H
              go_wp2_with fail
              clear zc0 zf0 zc1 zf1 zc2 zf2 zc3 zf3 zc4 zf4 zc5 zf5 zc6 zf6 zc7 zf7 zc8 zf8 zc9 zf9 zc10 zf10 zc11 zf11 zc12 zf12 zc13 zf13
              obtain ⟨hq1_, hq2_, hs_⟩ := st14_0_14 HB.out GE8.out BK8.out (.int .u8 0) (.int .i64 0) (.int .i64 0) (.int .i64 0) (.slice none 0 0) (.slice none 0 0) (.bool false) (.int .u8 0) (.int .i64 0) (.int .i64 0) (.int .i64 0) (.slice none 0 0) (.slice none 0 0) (.bool false)
              generalize ((((((((((((((w10.setCell ⟨gb8, 0, none⟩ (.int .u8 0)).setCell ⟨gb8, 1, none⟩ (.int .i64 0)).setCell ⟨gb8, 2, none⟩ (.int .i64 0)).setCell ⟨gb8, 3, none⟩ (.int .i64 0)).setCell ⟨gb8, 4, none⟩ (.slice none 0 0)).setCell ⟨gb8, 5, none⟩ (.slice none 0 0)).setCell ⟨gb8, 6, none⟩ (.bool false)).setCell ⟨gb8, 7, none⟩ (.int .u8 0)).setCell ⟨gb8, 8, none⟩ (.int .i64 0)).setCell ⟨gb8, 9, none⟩ (.int .i64 0)).setCell ⟨gb8, 10, none⟩ (.int .i64 0)).setCell ⟨gb8, 11, none⟩ (.slice none 0 0)).setCell ⟨gb8, 12, none⟩ (.slice none 0 0)).setCell ⟨gb8, 13, none⟩ (.bool false)) = wz at hs_ hq1_ hq2_ ⊢
              replace BK8 := Lib.hid hq1_
              replace HB := Lib.hid hq2_
              clear hs_ hq1_ hq2_
              refine bodyPost_ret (results_ct rfl _ _ gb8 62 #[.int .u8 0, .int .i64 0, .int .i64 0, .int .i64 0, .slice none 0 0, .slice none 0 0, .bool false, .int .u8 0, .int .i64 0, .int .i64 0, .int .i64 0, .slice none 0 0, .slice none 0 0, .bool false] (0, 0) _ rfl BK8.out Try.underlying62 rfl (by kernel_rfl)) rfl ?_
              exact ⟨_, _, _, _, rfl, Kd.R_nil _ _ _ _ _, Kd.R_nil _ _ _ _ _, Kd.R_nil _ _ _ _ _, Kd.R_nil _ _ _ _ _, HB.out⟩
            · have hb4 : decide (index ≥ n) = false := decide_eq_false hi1
              have hb5 : decide (n ≤ index) = false := decide_eq_false hi1
              have h := H.out
              rw [if_neg (show ¬ ((kind ≠ 1 ∧ kind ≠ 2) ∨ index < 0 ∨ index ≥ n) by omega)] at h
              simp only [Option.some.injEq, Prod.mk.injEq] at h
              obtain ⟨rfl, rfl, rfl, rfl, rfl, rfl, rfl, rfl, rfl, rfl, rfl, rfl, rfl, rfl, rfl⟩ := h
              clear H
              go_wp2_with fail
              clear zc0 zf0 zc1 zf1 zc2 zf2 zc3 zf3 zc4 zf4 zc5 zf5 zc6 zf6 zc7 zf7 zc8 zf8 zc9 zf9 zc10 zf10 zc11 zf11 zc12 zf12 zc13 zf13
              obtain ⟨hq1_, hq2_, hs_⟩ := st14_0_14 HB.out GE8.out BK8.out (.int .u8 p1) (.int .i64 p2) (.int .i64 p3) (.int .i64 p4) (.slice X4 p5.length x4) (.slice X5 p6.length x5) (.bool (p2 == index)) (.int .u8 q1) (.int .i64 q2) (.int .i64 q3) (.int .i64 q4) (.slice Y4 q5.length y4) (.slice Y5 q6.length y5) (.bool (q2 == index))
              generalize ((((((((((((((w10.setCell ⟨gb8, 0, none⟩ (.int .u8 p1)).setCell ⟨gb8, 1, none⟩ (.int .i64 p2)).setCell ⟨gb8, 2, none⟩ (.int .i64 p3)).setCell ⟨gb8, 3, none⟩ (.int .i64 p4)).setCell ⟨gb8, 4, none⟩ (.slice X4 p5.length x4)).setCell ⟨gb8, 5, none⟩ (.slice X5 p6.length x5)).setCell ⟨gb8, 6, none⟩ (.bool (p2 == index))).setCell ⟨gb8, 7, none⟩ (.int .u8 q1)).setCell ⟨gb8, 8, none⟩ (.int .i64 q2)).setCell ⟨gb8, 9, none⟩ (.int .i64 q3)).setCell ⟨gb8, 10, none⟩ (.int .i64 q4)).setCell ⟨gb8, 11, none⟩ (.slice Y4 q5.length y4)).setCell ⟨gb8, 12, none⟩ (.slice Y5 q6.length y5)).setCell ⟨gb8, 13, none⟩ (.bool (q2 == index))) = w11 at hs_ hq1_ hq2_ ⊢
              replace RU4 := Lib.hid (Kd.R_mono (Kd.R_step (Kd.R_types RU4.out BK8.out (by decide)) (fun k hk _ => hs_ k hk.2)) (ok' := fun _ => True) (fun _ _ => trivial))
              replace RU5 := Lib.hid (Kd.R_mono (Kd.R_step (Kd.R_types RU5.out BK8.out (by decide)) (fun k hk _ => hs_ k hk.2)) (ok' := fun _ => True) (fun _ _ => trivial))
              replace RV4 := Lib.hid (Kd.R_mono (Kd.R_step (Kd.R_types RV4.out BK8.out (by decide)) (fun k hk _ => hs_ k hk.2)) (ok' := fun _ => True) (fun _ _ => trivial))
              replace RV5 := Lib.hid (Kd.R_mono (Kd.R_step (Kd.R_types RV5.out BK8.out (by decide)) (fun k hk _ => hs_ k hk.2)) (ok' := fun _ => True) (fun _ _ => trivial))
              replace BK8 := Lib.hid hq1_
              replace HB := Lib.hid hq2_
              clear hs_ hq1_ hq2_
              refine bodyPost_ret (results_ct rfl _ _ gb8 62 #[.int .u8 p1, .int .i64 p2, .int .i64 p3, .int .i64 p4, .slice X4 p5.length x4, .slice X5 p6.length x5, .bool (p2 == index), .int .u8 q1, .int .i64 q2, .int .i64 q3, .int .i64 q4, .slice Y4 q5.length y4, .slice Y5 q6.length y5, .bool (q2 == index)] (0, 0) _ rfl BK8.out Try.underlying62 rfl (by kernel_rfl)) rfl ?_
              exact ⟨_, _, _, _, rfl, RU4.out, RU5.out, RV4.out, RV5.out, HB.out⟩
        · have hb2 : (kind != 2) = true := bne_iff_ne.mpr hk2
          have h := H.out
          rw [if_pos (show (kind ≠ 1 ∧ kind ≠ 2) ∨ index < 0 ∨ index ≥ n by omega)] at h
          simp only [cell_look.zero, Option.some.injEq, Prod.mk.injEq] at h
          obtain ⟨rfl, rfl, rfl, rfl, rfl, rfl, rfl, rfl, rfl, rfl, rfl, rfl, rfl, rfl, rfl⟩ := h
          clear H
          go_wp2_with fail
          clear zc0 zf0 zc1 zf1 zc2 zf2 zc3 zf3 zc4 zf4 zc5 zf5 zc6 zf6 zc7 zf7 zc8 zf8 zc9 zf9 zc10 zf10 zc11 zf11 zc12 zf12 zc13 zf13
          obtain ⟨hq1_, hq2_, hs_⟩ := st14_0_14 HB.out GE8.out BK8.out (.int .u8 0) (.int .i64 0) (.int .i64 0) (.int .i64 0) (.slice none 0 0) (.slice none 0 0) (.bool false) (.int .u8 0) (.int .i64 0) (.int .i64 0) (.int .i64 0) (.slice none 0 0) (.slice none 0 0) (.bool false)
          generalize ((((((((((((((w10.setCell ⟨gb8, 0, none⟩ (.int .u8 0)).setCell ⟨gb8, 1, none⟩ (.int .i64 0)).setCell ⟨gb8, 2, none⟩ (.int .i64 0)).setCell ⟨gb8, 3, none⟩ (.int .i64 0)).setCell ⟨gb8, 4, none⟩ (.slice none 0 0)).setCell ⟨gb8, 5, none⟩ (.slice none 0 0)).setCell ⟨gb8, 6, none⟩ (.bool false)).setCell ⟨gb8, 7, none⟩ (.int .u8 0)).setCell ⟨gb8, 8, none⟩ (.int .i64 0)).setCell ⟨gb8, 9, none⟩ (.int .i64 0)).setCell ⟨gb8, 10, none⟩ (.int .i64 0)).setCell ⟨gb8, 11, none⟩ (.slice none 0 0)).setCell ⟨gb8, 12, none⟩ (.slice none 0 0)).setCell ⟨gb8, 13, none⟩ (.bool false)) = wz at hs_ hq1_ hq2_ ⊢
          replace BK8 := Lib.hid hq1_
          replace HB := Lib.hid hq2_
          clear hs_ hq1_ hq2_
          refine bodyPost_ret (results_ct rfl _ _ gb8 62 #[.int .u8 0, .int .i64 0, .int .i64 0, .int .i64 0, .slice none 0 0, .slice none 0 0, .bool false, .int .u8 0, .int .i64 0, .int .i64 0, .int .i64 0, .slice none 0 0, .slice none 0 0, .bool false] (0, 0) _ rfl BK8.out Try.underlying62 rfl (by kernel_rfl)) rfl ?_
          exact ⟨_, _, _, _, rfl, Kd.R_nil _ _ _ _ _, Kd.R_nil _ _ _ _ _, Kd.R_nil _ _ _ _ _, Kd.R_nil _ _ _ _ _, HB.out⟩
end Go.Proofs.Ytihefjdabjmmaaa.PD
