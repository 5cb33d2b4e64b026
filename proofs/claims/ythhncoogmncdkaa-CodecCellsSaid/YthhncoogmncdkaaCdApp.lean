/- append(xs, ys...) of rows that lie apart. No condition. -/
import Derived.Test.YthhncoogmncdkaaCdRaw
namespace Go.Proofs.Ythhncoogmncdkaa
open Go Go.RowKit Go.Proofs.YthhncoogmncdkaaW.PrintWords Go.Proofs.YthhncoogmncdkaaW.PrintLast Go.Proofs.YthhncoogmncdkaaW.PrintMore
variable {α : Type} {P : Program} {ops : Array Oper} {rest : List Oper} {o : Oper} {a : Act} {Q : Exit → Act → World → Prop}
theorem S_append_rows (d : Kd α) {w0 W : World} (base : Nat) (hgd : o.guard = none) (s x : Operand) (t e : TypeId) (z : Value) (bytes : Nat)
    (ho : o.op = .call { callee := .builtin .append, args := #[s, x], argTypes := #[t, t] })
    (ht : P.underlying t = some (.slice e)) (hinfo : (P.info? e).map (fun i => (i.zero, i.size, i.bytes)) = some (some z, d.sz, bytes)) (hz : z.cells.size = d.sz) (hs0 : 0 < d.sz) (hb0 : 0 < bytes)
    (v : Value) (xs ys : List α) (A : Option Addr) (m c B : Nat) (hs : a.eval s = v) (hx : a.eval x = .slice A m c)
    (HX : Kd.S d e W base (fun k => k < B) v xs) (HY : Kd.S d e W base (fun k => B ≤ k) (.slice A m c) ys)
    (HB : Below base w0 W) (hbase : base ≤ W.heap.size) (hl : (xs.length + m) * bytes ≤ 140737488355328)
    (h : ∀ v1 w1, Kd.S d e w1 base (fun _ => True) v1 (xs ++ ys) → Below base w0 w1 → W.grownBy w1 v.ownBlock → (v1.ownBlock = v.ownBlock ∨ ∃ b, v1.ownBlock = some b ∧ W.heap.size ≤ b) → wpList P ops Q rest (a.put o.dst v1) w1) :
    wpList P ops Q (o :: rest) a W := by
  obtain ⟨f1, h1⟩ := HX
  obtain ⟨f2, h2⟩ := HY
  have hown := h1.1
  have hlen : (ys.zipIdx).length = m := (Kd.R_reads' h2).1.symm
  have HO : (Kd.tag (fun k => if k < B then f1 k else f2 k + xs.length) d).R e W base (fun _ => True) v xs.zipIdx := by
    obtain ⟨h0, inner, hin, hr⟩ := h1
    refine ⟨fun _ _ => trivial, inner, hin, hr.imp_ (fun p c hp => d.M_mono (fun k hk => ⟨⟨trivial, hk.1.2⟩, ?_⟩) hp)⟩
    show (if k < B then f1 k else f2 k + xs.length) = p.2
    rw [if_pos hk.1.1]
    exact hk.2
  have HR : ReadsRow ((Kd.tag (fun k => if k < B then f1 k else f2 k + xs.length) d).M W base (fun k => B ≤ k)) d.sz W A m (ys.zipIdx xs.length) := by
    obtain ⟨r1, r2, r3⟩ := (Kd.R_reads' h2).2.2
    refine ⟨by rw [List.length_zipIdx] at hlen ⊢; exact hlen, by rw [← hlen]; exact r2, fun hp => ?_⟩
    obtain ⟨ad, hA, _⟩ := r3 (by rw [hlen]; exact hp)
    subst hA
    refine ⟨ad, rfl, fun j p hj => ?_⟩
    rw [List.getElem?_zipIdx] at hj
    obtain ⟨y, hy, rfl⟩ := Option.map_eq_some_iff.1 hj
    have hjl : j < ys.length := (List.getElem?_eq_some_iff.1 hy).1
    rw [List.length_zipIdx] at hlen
    obtain ⟨c', c1, c2, c3⟩ := Kd.R_getA h2 (y, j) (j : Int) (Int.natCast_nonneg j) (by omega)
    have hg : ys.zipIdx.getD (j : Int).toNat (y, j) = (y, j) := by
      rw [Int.toNat_natCast, List.getD_eq_getElem?_getD, List.getElem?_zipIdx, hy]; simp
    rw [hg] at c2
    refine ⟨c', c1, d.M_mono (fun k hk => ⟨hk.1.1, ?_⟩) c2, fun i u hu => by have := c3 i u hu; rwa [Int.toNat_natCast] at this⟩
    show (if k < B then f1 k else f2 k + xs.length) = xs.length + j
    have h5 : B ≤ k := hk.1.1
    have h6 : f2 k = j := hk.2
    rw [if_neg (by omega), h6, Nat.add_comm]
  refine Kd.R_append_rows (Kd.tag (fun k => if k < B then f1 k else f2 k + xs.length) d) base hgd s x t e z bytes ho ht hinfo hz hs0 hb0 v xs.zipIdx (ys.zipIdx xs.length) A m c (fun _ => True) (fun k => B ≤ k) hs hx HO HR (fun _ _ hm => hm) (fun k hk => ⟨trivial, fun z => ?_⟩) (fun _ _ => trivial) HB hbase (by rw [List.length_zipIdx]; exact hl) ?_
  · have h5 : B ≤ k := hk
    have h6 : k < B := hown k z.symm
    omega
  · intro v1 w1 hr
    have e : (xs ++ ys).zipIdx = xs.zipIdx ++ ys.zipIdx xs.length := by rw [List.zipIdx_append, Nat.zero_add]
    rw [← e] at hr
    exact h v1 w1 ⟨_, hr⟩
end Go.Proofs.Ythhncoogmncdkaa
