/- Own lists whose elements are slices, told as their headers. No condition. -/
import Derived.Test.YthhncoogmncdkaaCdRaw
import Derived.Laws.Cover3
namespace Go.Proofs.Ythhncoogmncdkaa
open Go Go.RowKit Go.Proofs.YthhncoogmncdkaaW.PrintWords Go.Proofs.YthhncoogmncdkaaW.PrintLast Go.Proofs.YthhncoogmncdkaaW.PrintMore
/-- a slice's header -/
def sl (x : Option Addr × Nat × Nat) : Value := .slice x.1 x.2.1 x.2.2
theorem sl_one : ∀ x, (sl x).oneCell' = true := fun _ => rfl
def noSl : Option Addr × Nat × Nat := (none, 0, 0)
abbrev KS : Kd (Option Addr × Nat × Nat) := Kd.scalar sl sl_one
theorem RowsC.ts {W : World} {vs : List Value} {ys : List (List Int)} (h : RowsC W vs ys) : ∃ ts : List (Option Addr × Nat × Nat), vs = ts.map sl := by
  refine ⟨vs.map (fun v => match v with | .slice A n c => (A, n, c) | _ => noSl), ?_⟩
  apply List.ext_getElem?
  intro j
  rw [List.map_map, List.getElem?_map]
  cases hc : vs[j]? with
  | none => rfl
  | some v =>
    have hj : j < ys.length := by rw [← h.1]; exact (List.getElem?_eq_some_iff.1 hc).1
    obtain ⟨A, c, rfl, _, _⟩ := h.2 j v ys[j] hc (List.getElem?_eq_getElem hj)
    rfl
/-- what a slice of rows reads as, header by header -/
theorem RowsC.of_C' {W : World} {A : Option Addr} {n : Nat} {ys : List (List Int)} (h : Kd.C (Kd.slice 5 (Kd.int .u8)) W A n ys) : ∃ ts : List (Option Addr × Nat × Nat), ReadsRow (KS.K W) 1 W A n ts ∧ RowsC W (ts.map sl) ys := by
  obtain ⟨news, h1, ⟨h2, h3, h4⟩, vs, h5, h6⟩ := RowsC.of_C h
  obtain ⟨ts, h7⟩ := h6.ts
  subst h7
  subst h5
  refine ⟨ts, ⟨by simpa using h2, h3, fun hp => ?_⟩, h6⟩
  obtain ⟨ad, hA, hc⟩ := h4 hp
  refine ⟨ad, hA, fun j p hj => ?_⟩
  obtain ⟨c, c1, c2, c3⟩ := hc j [sl p] (by simp [hj])
  exact ⟨c, c1, c2.1, c3⟩
/-- an own list of headers, read as rows -/
theorem RowsC.of_sl {W : World} {e base : Nat} {ok : Nat → Prop} {v : Value} {ts : List (Option Addr × Nat × Nat)} {ys : List (List Int)} (h : KS.R e W base ok v ts) (hr : RowsC W (ts.map sl) ys) : ∃ A c, v = .slice A ys.length c ∧ ys.length ≤ c ∧ Kd.C (Kd.slice 5 (Kd.int .u8)) W A ys.length ys ∧ ReadsRow (KS.K W) 1 W A ys.length ts := by
  obtain ⟨A, c, rfl⟩ := Kd.R_slice h
  obtain ⟨h1, h2, h3⟩ := Kd.R_reads' h
  have hl : ts.length = ys.length := by have := hr.1; simpa using this
  rw [hl] at h1 h2 h3 ⊢
  refine ⟨A, c, rfl, h2, hr.C h3.2.1 (fun hp => ?_), h3⟩
  obtain ⟨ad, hA, hcell⟩ := h3.2.2 hp
  refine ⟨ad, hA, fun j hj => ?_⟩
  have hj' : j < ts.length := by simpa using hj
  obtain ⟨c', c1, c2, c3⟩ := hcell j ts[j] (List.getElem?_eq_getElem hj')
  have hcc : c' = [sl ts[j]] := c2
  subst hcc
  have := c3 0 (sl ts[j]) rfl
  rw [List.getElem?_map, List.getElem?_eq_getElem hj']
  simpa [Kd.scalar] using this
theorem RowsC.set {W : World} {ts : List (Option Addr × Nat × Nat)} {ys : List (List Int)} (h : RowsC W (ts.map sl) ys) (n : Nat) : RowsC W ((ts.set n noSl).map sl) (ys.set n []) := by
  refine ⟨by have := h.1; simpa using this, fun j v y hv hy => ?_⟩
  rw [List.getElem?_map, List.getElem?_set] at hv
  rw [List.getElem?_set] at hy
  by_cases e : n = j
  · rw [if_pos e] at hv hy
    split at hv
    · split at hy
      · simp at hv hy; subst hv hy; exact RowC.nil W
      · cases hy
    · simp at hv
  · rw [if_neg e] at hv hy
    exact h.2 j v y (by rw [List.getElem?_map]; exact hv) hy
/-- no row is empty, but those that are nil -/
def Full (ts : List (Option Addr × Nat × Nat)) (ys : List (List Int)) : Prop := ∀ (j : Nat) (x : Option Addr × Nat × Nat) (y : List Int), ts[j]? = some x → ys[j]? = some y → (x = noSl ∧ y = []) ∨ ((∃ ad, x.1 = some ad) ∧ 1 ≤ y.length)
theorem Full.start {W : World} {ts : List (Option Addr × Nat × Nat)} {ys : List (List Int)} (h : RowsC W (ts.map sl) ys) (h1 : ∀ y ∈ ys, 1 ≤ y.length) : Full ts ys := fun j x y hx hy => by
  have hy1 := h1 y (List.mem_of_getElem? hy)
  obtain ⟨A, c, e, _, hC⟩ := h.2 j (sl x) y (by rw [List.getElem?_map, hx]; rfl) hy
  obtain ⟨ad, hA, _⟩ := hC.2.2 (by omega)
  refine .inr ⟨⟨ad, ?_⟩, hy1⟩
  unfold sl at e
  injection e with e1 e2 e3
  rw [e1, hA]
theorem Full.set {ts : List (Option Addr × Nat × Nat)} {ys : List (List Int)} (h : Full ts ys) (n : Nat) : Full (ts.set n noSl) (ys.set n []) := fun j x y hx hy => by
  rw [List.getElem?_set] at hx hy
  by_cases e : n = j
  · rw [if_pos e] at hx hy
    split at hx
    · split at hy
      · simp at hx hy; exact .inl ⟨hx.symm, hy⟩
      · cases hy
    · cases hx
  · rw [if_neg e] at hx hy
    exact h j x y hx hy
end Go.Proofs.Ythhncoogmncdkaa
