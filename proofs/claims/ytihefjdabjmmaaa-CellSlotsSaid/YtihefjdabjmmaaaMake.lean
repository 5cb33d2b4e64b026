/- 'make([]T, 0, n)' as an own row that is empty, and 'xs[:j:j]' of a slice that is read. No condition. -/
import Derived.Test.YtihefjdabjmmaaaWMore
namespace Go.Proofs.YtihefjdabjmmaaaW.PrintWords
open Go Go.RowKit
theorem cut_to_max {P : Program} (t e : TypeId) (kh km : IntKind) {i : TypeInfo} (ht : P.underlying t = some (.slice e)) (hi : P.info? e = some i) (A : Option Addr) (n c : Nat) (j : Int) (h0 : 0 ≤ j) (hm : j ≤ n) (hc : n ≤ c) :
    ∀ W : World, (Instr.slice t (.slice A n c) none (some (.int kh j)) (some (.int km j))).run P W = .ok (.slice A j.toNat j.toNat) W := by
  intro W
  have hel : P.elem t = e := by simp [Program.elem, ht]
  have hu : P.underlying t = some (.slice (P.elem t)) := by rw [hel]; exact ht
  have ha : (A.map fun x => x.add 0) = A := by cases A <;> simp [Addr.add]
  rw [run_slice_hm W t A n c hu kh km j j h0 (by omega) (by omega), hel]
  simp [sizeOf, typeInfo, hi, sliced, Result.andThen, ha]
theorem below_bytesW {B : Nat} {W : World} (h : B ≤ W.heap.size) (e : TypeId) (s : ByteArray) : Below B W (Lib.bytesWorld W e s) :=
  ⟨rfl, rfl, rfl, by rw [Lib.bytesWorld_size]; omega, fun k hk => Lib.bytesWorld_at_old W e s k (by omega)⟩
namespace Kd
section
variable {P : Program} {ops : Array Oper} {rest : List Oper} {o : Oper} {a : Act} {Q : Exit → Act → World → Prop} {Kc : Act → World → Prop} {α : Type}
theorem V_conv {w0 W : World} (base e : Nat) (hgd : o.guard = none) {N' : Tmp} (_hd : o.dst = some N') (src dst : TypeId) (x : Operand) (ho : o.op = .convert src dst x) (s : ByteArray) (hx : a.eval x = .string s) {u : TypeDesc}
    (hs : P.underlying src = some u) (hdst : P.underlying dst = some (.slice e)) (he : P.underlying e = some (.int .u8)) {ok : Nat → Prop} (hok : ∀ k, W.heap.size ≤ k → ok k) (hm : s.size ≤ 140737488351232) (HB : Below base w0 W) (hbase : base ≤ W.heap.size)
    (h : ∀ v1 w1, V (Kd.int .u8) e w1 base ok v1 (bytesOf s) → Below base w0 w1 → W.grownBy w1 none → (∃ b, v1.ownBlock = some b ∧ W.heap.size ≤ b) → wpList P ops Q rest (a.put o.dst v1) w1) : wpList P ops Q (o :: rest) a W := by
  have hl : (bytesOf s).length = s.size := bytesOf_length s
  have hg : s.size ≤ grownCap W s.size 0 e := grownCap_ge W s.size 0 e
  refine event_run hgd (w1 := Lib.bytesWorld W e s) (v := .slice (some ⟨W.heap.size, 0, none⟩) s.size (grownCap W s.size 0 e)) (by simp [execOp, ho, hx, Lib.run_convert_string_bytes W src dst e s hs hdst he]) (h _ _ ⟨_, _, by rw [hl], by rw [hl]; exact hg, ?_⟩ ?_ ?_ ⟨W.heap.size, by simp [Value.ownBlock], Nat.le_refl _⟩)
  · intro W' hW
    have hb : W'.heap[W.heap.size]? = (Lib.bytesWorld W e s).heap[W.heap.size]? := hW _ (hok _ (Nat.le_refl _)) (by rw [Lib.bytesWorld_size]; omega)
    rw [hl]
    refine C_of_reads (enc := Value.int .u8) (d := (0 : Int)) (h1 := fun _ => rfl) ?_
    obtain ⟨h1, h2, h3⟩ := bytes_reads W e s (by omega)
    refine ⟨h1, h2, fun hn => ?_⟩
    obtain ⟨ad, hA, hc⟩ := h3 hn
    refine ⟨ad, hA, fun i hi => ?_⟩
    injection hA with hA
    have := hc i hi
    rw [← hA] at this ⊢
    unfold World.cell? at this ⊢
    rw [add_block] at this ⊢
    show (match W'.heap[W.heap.size]? with | some (.cells c _ _) => _ | _ => _) = _
    rw [hb]; exact this
  · exact HB.trans (below_bytesW hbase e s)
  · exact ⟨rfl, rfl, rfl, by rw [Lib.bytesWorld_size]; omega, fun k hk _ => Lib.bytesWorld_at_old W e s k hk⟩
end
end Kd
end Go.Proofs.YtihefjdabjmmaaaW.PrintWords
