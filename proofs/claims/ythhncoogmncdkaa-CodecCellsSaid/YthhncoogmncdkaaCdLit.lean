/- Small laws on literals: rows of numbers, rows of rows. No condition. -/
import Derived.Test.YthhncoogmncdkaaHK
import Derived.Test.YthhncoogmncdkaaCopy
namespace Go.Proofs.Ythhncoogmncdkaa
open Go Go.RowKit Go.Proofs.YthhncoogmncdkaaW.PrintWords Go.Proofs.YthhncoogmncdkaaW.PrintLast Go.Proofs.YthhncoogmncdkaaW.PrintMore
theorem lit_C {k : IntKind} {W : World} {g : Nat} {xs : List Int} {e : TypeId} {cs : Array Value} (h : W.heap[g]? = some (.cells cs e (0, 0))) (hcs : cs = (encs (Value.int k) xs).toArray) (hl : xs.length ≤ 100000) : Kd.C (Kd.int k) W (some ⟨g, 0, none⟩) xs.length xs := by
  subst hcs
  have hown := own_of_block (base := 0) h (Nat.zero_le _) (by simp [encs, maxLen]; omega)
  have hlen : (encs (Value.int k) xs).length = xs.length := by simp [encs]
  rw [hlen] at hown
  exact (Kd.R_reads' (Kd.R_of_own (h1 := fun _ => rfl) (ok := fun _ => True) hown (fun _ _ => trivial))).2.2
/-- a value that reads as a row -/
def RowC (W : World) (v : Value) (y : List Int) : Prop := ∃ A c, v = .slice A y.length c ∧ y.length ≤ c ∧ Kd.C (Kd.int .u8) W A y.length y
theorem RowC.mk {W : World} {A : Option Addr} {c : Nat} {y : List Int} (h : Kd.C (Kd.int .u8) W A y.length y) (hc : y.length ≤ c) : RowC W (.slice A y.length c) y := ⟨A, c, rfl, hc, h⟩
theorem RowC.below {W W' : World} {v : Value} {y : List Int} (h : RowC W v y) (hb : Below W.heap.size W W') : RowC W' v y := by
  obtain ⟨A, c, h1, h2, h3⟩ := h
  exact ⟨A, c, h1, h2, Kd.C_below h3 hb⟩
theorem RowC.nil (W : World) : RowC W (.slice none 0 0) [] := ⟨none, 0, rfl, Nat.le_refl _, rfl, by decide, fun h => absurd h (by decide)⟩
theorem RowC.of_R {W : World} {e base : Nat} {ok : Nat → Prop} {v : Value} {y : List Int} (h : Kd.R (Kd.int .u8) e W base ok v y) : RowC W v y := by
  obtain ⟨A, c, rfl⟩ := Kd.R_slice h
  have h' := Kd.R_reads' h
  exact ⟨A, c, rfl, h'.2.1, h'.2.2⟩
/-- rows, value by value -/
def RowsC (W : World) (vs : List Value) (ys : List (List Int)) : Prop := vs.length = ys.length ∧ ∀ (j : Nat) (v : Value) (y : List Int), vs[j]? = some v → ys[j]? = some y → RowC W v y
theorem RowsC.below {W W' : World} {vs : List Value} {ys : List (List Int)} (h : RowsC W vs ys) (hb : Below W.heap.size W W') : RowsC W' vs ys := ⟨h.1, fun j v y h1 h2 => (h.2 j v y h1 h2).below hb⟩
theorem RowsC.one {W : World} {v : Value} {y : List Int} (h : RowC W v y) : RowsC W [v] [y] := ⟨rfl, fun j v' y' h1 h2 => by
  match j, h1, h2 with
  | 0, h1, h2 => injection h1 with h1; injection h2 with h2; subst h1 h2; exact h
  | j + 1, h1, h2 => cases h1⟩
theorem RowsC.append {W : World} {vs us : List Value} {ys zs : List (List Int)} (h : RowsC W vs ys) (h' : RowsC W us zs) : RowsC W (vs ++ us) (ys ++ zs) := by
  refine ⟨by simp [h.1, h'.1], fun j v y h1 h2 => ?_⟩
  have hl := h.1
  by_cases hj : j < vs.length
  · rw [List.getElem?_append_left hj] at h1
    rw [List.getElem?_append_left (by omega)] at h2
    exact h.2 j v y h1 h2
  · rw [List.getElem?_append_right (by omega)] at h1
    rw [List.getElem?_append_right (by omega), ← hl] at h2
    exact h'.2 _ v y h1 h2
theorem RowsC.nil (W : World) : RowsC W [] [] := ⟨rfl, fun j v y h1 _ => by simp at h1⟩
/-- a slice whose cells are such values reads as these rows -/
theorem RowsC.C {W : World} {A : Option Addr} {vs : List Value} {ys : List (List Int)} (h : RowsC W vs ys) (hm : ys.length ≤ 9223372036854775807) (hc : 0 < ys.length → ∃ ad, A = some ad ∧ ∀ j, j < vs.length → W.cell? (ad.add j) = vs[j]?) : Kd.C (Kd.slice 5 (Kd.int .u8)) W A ys.length ys := by
  refine ⟨rfl, hm, fun hp => ?_⟩
  obtain ⟨ad, hA, hcell⟩ := hc hp
  refine ⟨ad, hA, fun j p hj => ?_⟩
  have hjl : j < vs.length := by rw [h.1]; exact (List.getElem?_eq_some_iff.1 hj).1
  obtain ⟨B, c, hv, hle, hC⟩ := h.2 j vs[j] p (List.getElem?_eq_getElem hjl) hj
  refine ⟨[vs[j]], rfl, ⟨B, c, by rw [hv], hle, hC⟩, fun i u hu => ?_⟩
  cases i with
  | zero =>
    injection hu with hu; subst hu
    have := hcell j hjl
    rw [List.getElem?_eq_getElem hjl] at this
    simpa [Kd.slice] using this
  | succ i => cases hu
theorem lit_rows {W : World} {g : Nat} {vs : List Value} {ys : List (List Int)} {e : TypeId} {cs : Array Value} (h : W.heap[g]? = some (.cells cs e (0, 0))) (hcs : cs = vs.toArray) (hr : RowsC W vs ys) (hm : ys.length ≤ 100000) : Kd.C (Kd.slice 5 (Kd.int .u8)) W (some ⟨g, 0, none⟩) ys.length ys := by
  subst hcs
  refine hr.C (by omega) (fun _ => ⟨_, rfl, fun j hj => ?_⟩)
  rw [add_plain, blk_cell h]
  simp
/-- what a slice of rows reads as, value by value -/
theorem RowsC.of_C {W : World} {A : Option Addr} {n : Nat} {ys : List (List Int)} (h : Kd.C (Kd.slice 5 (Kd.int .u8)) W A n ys) : ∃ news : List (List Value), news.length = ys.length ∧ ReadsRow ((Kd.raw 1).K W) 1 W A n news ∧ ∃ vs : List Value, news = vs.map (fun v => [v]) ∧ RowsC W vs ys := by
  obtain ⟨news, h1, h2, h3⟩ := Kd.reads_raw h (fun x c h => ⟨(Kd.slice 5 (Kd.int .u8)).K_len h, (Kd.slice 5 (Kd.int .u8)).K_one h⟩)
  have hv : ∀ (j : Nat) (c : List Value), news[j]? = some c → ∃ v, c = [v] := fun j c hc => by
    have hj : j < ys.length := by rw [← h1]; exact (List.getElem?_eq_some_iff.1 hc).1
    obtain ⟨B, k, hv, _⟩ := h3 j ys[j] c (List.getElem?_eq_getElem hj) hc
    exact ⟨_, hv⟩
  refine ⟨news, h1, h2, news.map (fun c => c.getD 0 undef), ?_, by simp [h1], fun j v y hj hy => ?_⟩
  · apply List.ext_getElem?
    intro j
    rw [List.map_map, List.getElem?_map]
    cases hc : news[j]? with
    | none => rfl
    | some c =>
      obtain ⟨v, rfl⟩ := hv j c hc
      rfl
  · rw [List.getElem?_map] at hj
    obtain ⟨c, hc, rfl⟩ := Option.map_eq_some_iff.1 hj
    obtain ⟨B, k, hv', hle, hC⟩ := h3 j y c hy hc
    subst hv'
    exact ⟨B, k, rfl, hle, hC⟩
/-- rows of raw cells that are own, read as rows -/
theorem RowsC.of_raw {W : World} {e base : Nat} {ok : Nat → Prop} {v : Value} {vs : List Value} {ys : List (List Int)} (h : Kd.R (Kd.raw 1) e W base ok v (vs.map (fun v => [v]))) (hr : RowsC W vs ys) : ∃ A c, v = .slice A ys.length c ∧ ys.length ≤ c ∧ Kd.C (Kd.slice 5 (Kd.int .u8)) W A ys.length ys := by
  obtain ⟨A, c, rfl⟩ := Kd.R_slice h
  obtain ⟨h1, h2, h3⟩ := Kd.R_reads' h
  rw [List.length_map, hr.1] at h1 h2 ⊢
  refine ⟨A, c, rfl, h2, hr.C (by have := h3.2.1; rw [List.length_map, hr.1] at this; exact this) (fun hp => ?_)⟩
  obtain ⟨ad, hA, hcell⟩ := h3.2.2 (by rw [List.length_map, hr.1]; exact hp)
  refine ⟨ad, hA, fun j hj => ?_⟩
  obtain ⟨c', hl, hK, hc'⟩ := hcell j [vs[j]] (by simp [hj])
  have hcc : c' = [vs[j]] := hK.1
  subst hcc
  have := hc' 0 vs[j] rfl
  rw [List.getElem?_eq_getElem hj]
  simpa [Kd.raw] using this
end Go.Proofs.Ythhncoogmncdkaa
