/- What a law's arguments are, read off the row's own reading: for each kind of value the plain thing that it holds. No condition. -/
import Derived.Test.YthhncoogmncdkaaWMore
import Derived.SizedLaws
import Derived.ChangeSlices
import Derived.WideShapes
import Derived.OpenShut
namespace Go.Proofs.Ythhncoogmncdkaa
open Go Go.ChangeShapes Go.WideShapes Go.Proofs.YthhncoogmncdkaaW.PrintWords
section
variable {P : Program}
/-- Whatever can be read as a value of type t, and is no larger than a row lets it be, is of kind d and has G. -/
def Opens {α : Type} (P : Program) (t : TypeId) (d : Kd α) (G : α → Prop) : Prop :=
  P.cellsOf t = d.sz ∧ ∀ {H : Type} (enc : TypeId × Value → H) (W : World) (base : Nat) (spare : Nat → Bool) (held : Bool) (fuel : Nat) (cs : List Value) (dat : DataW H) (ps : List MemPlace),
    DataW.trod enc P W base spare held fuel t cs = some (dat, ps) → (DataW.weights P t dat).all (· ≤ reachBytes) = true → ∃ x, d.K W x cs ∧ G x
theorem opens_int {t : TypeId} {k : IntKind} (hu : P.underlying t = some (.int k)) (hc : P.cellsOf t = 1) : Opens P t (Kd.int k) (fun x => (Lit.int k x).wf = true) := by
  refine ⟨hc, fun enc W base spare held fuel cs dat ps h _ => ?_⟩
  cases fuel with
  | zero => simp [DataW.trod] at h
  | succ fuel =>
    unfold DataW.trod at h
    rw [hu] at h
    split at h <;> first | (exfalso; simp_all; done) | skip
    rename_i k1 k2 n e1
    obtain rfl : k1 = k := by simpa using e1.symm
    split at h
    · rename_i e3
      obtain ⟨rfl, e4⟩ := e3
      exact ⟨n, rfl, e4⟩
    · cases h
theorem mapM_at {α β : Type} {f : α → Option β} : ∀ {l : List α} {ys : List β}, l.mapM f = some ys → ys.length = l.length ∧ ∀ (i : Nat) (x : α), l[i]? = some x → ∃ y, ys[i]? = some y ∧ f x = some y
  | [], ys, h => by simp at h; subst h; exact ⟨rfl, fun i x hx => by simp at hx⟩
  | a :: l, ys, h => by
    rw [List.mapM_cons] at h
    cases ha : f a with
    | none => simp [ha] at h
    | some y =>
      cases hl : l.mapM f with
      | none => simp [ha, hl] at h
      | some zs =>
        simp [ha, hl] at h
        subst h
        obtain ⟨h1, h2⟩ := mapM_at hl
        refine ⟨by simp [h1], fun i x hx => ?_⟩
        cases i with
        | zero => simp at hx; subst hx; exact ⟨y, rfl, ha⟩
        | succ i => simp at hx; obtain ⟨z, hz, hf⟩ := h2 i x hx; exact ⟨z, by simpa using hz, hf⟩
theorem weightsAll_at {H : Type} {e : TypeId} : ∀ {l : List (DataW H)}, (DataW.weightsAll P e l).all (· ≤ reachBytes) = true → ∀ d, d ∈ l → (DataW.weights P e d).all (· ≤ reachBytes) = true
  | [], _, d, hd => by cases hd
  | a :: l, h, d, hd => by
    simp only [DataW.weightsAll, List.all_append, Bool.and_eq_true] at h
    rcases List.mem_cons.1 hd with rfl | hd
    · exact h.1
    · exact weightsAll_at h.2 d hd
theorem list_of_all {α : Type} {R : Nat → α → Prop} : ∀ n, (∀ i, i < n → ∃ x, R i x) → ∃ l : List α, l.length = n ∧ ∀ (i : Nat) (x : α), l[i]? = some x → R i x
  | 0, _ => ⟨[], rfl, fun i x h => by simp at h⟩
  | n + 1, h => by
    obtain ⟨l, hl, hr⟩ := list_of_all n (fun i hi => h i (by omega))
    obtain ⟨x, hx⟩ := h n (by omega)
    refine ⟨l ++ [x], by simp [hl], fun i y hy => ?_⟩
    by_cases hi : i < n
    · rw [List.getElem?_append_left (by omega)] at hy; exact hr i y hy
    · have : i < (l ++ [x]).length := (List.getElem?_eq_some_iff.1 hy).1
      simp [hl] at this
      obtain rfl : i = n := by omega
      rw [List.getElem?_append_right (by omega)] at hy
      simp [hl] at hy
      exact hy ▸ hx
theorem cells?_at {W : World} {base : Nat} {a : Addr} {n : Nat} {cs : List Value} (h : W.cells? base a n = some cs) : cs.length = n ∧ ∀ (i : Nat) (u : Value), cs[i]? = some u → W.cell? (a.add i) = some u := by
  unfold World.cells? at h
  split at h
  · obtain ⟨h1, h2⟩ := mapM_at h
    rw [List.length_range] at h1
    refine ⟨h1, fun i u hu => ?_⟩
    have hi : i < n := by have := (List.getElem?_eq_some_iff.1 hu).1; omega
    obtain ⟨y, hy, hf⟩ := h2 i i (by rw [List.getElem?_range hi])
    rw [hu] at hy
    injection hy with hy
    rw [hf, hy]
  · cases h
theorem opens_slice {α : Type} {t e : TypeId} {d : Kd α} {G : α → Prop} (hu : P.underlying t = some (.slice e)) (hc : P.cellsOf t = 1) {B : Nat} (hB : P.bytesOf e = B) (he : Opens P e d G) : Opens P t (Kd.slice e d) (fun l => l.length ≤ maxLen ∧ l.length * B ≤ 140737488351232 ∧ ∀ x ∈ l, G x) := by
  refine ⟨hc, fun enc W base spare held fuel cs dat ps h hw => ?_⟩
  cases fuel with
  | zero => simp [DataW.trod] at h
  | succ fuel =>
    unfold DataW.trod at h
    rw [hu] at h
    split at h <;> first | (exfalso; simp_all; done) | skip
    · rename_i e1
      exact ⟨[], ⟨none, 0, rfl, Nat.le_refl _, rfl, by simp, fun h => absurd h (Nat.lt_irrefl 0)⟩, by simp [maxLen], by simp, fun x hx => by cases hx⟩
    · rename_i e' a len cap e1
      obtain rfl : e' = e := by simpa using e1.symm
      simp only at h
      split at h
      · rename_i hb
        obtain ⟨hb1, hb2, hb3⟩ := hb
        cases hm : (List.range len).mapM (fun i => (W.cells? base (a.add (i * P.cellsOf e')) (P.cellsOf e')).bind (DataW.trod enc P W base spare held fuel e')) with
        | none => simp [hm] at h
        | some elems =>
          simp only [hm, Option.bind_some] at h
          rw [Option.map_eq_some_iff] at h
          obtain ⟨rest, hrest, h⟩ := h
          injection h with h1 h2
          subst h1
          obtain ⟨ml, mt⟩ := mapM_at hm
          rw [List.length_range] at ml
          simp only [DataW.weights, hu, List.all_cons, Bool.and_eq_true, List.all_append] at hw
          obtain ⟨w1, w2, _⟩ := hw
          have hall : ∀ i, i < len → ∃ x, G x ∧ ∃ c, c.length = d.sz ∧ d.K W x c ∧ ∀ q u, c[q]? = some u → W.cell? (a.add (i * d.sz + q)) = some u := by
            intro i hi
            obtain ⟨y, hy, hf⟩ := mt i i (by rw [List.getElem?_range hi])
            rw [Option.bind_eq_some_iff] at hf
            obtain ⟨c, hc1, hc2⟩ := hf
            obtain ⟨c3, c4⟩ := cells?_at hc1
            obtain ⟨yd, yp⟩ := y
            have hmem : yd ∈ elems.map (·.1) := List.mem_map.2 ⟨(yd, yp), List.mem_of_getElem? hy, rfl⟩
            obtain ⟨x, hx, hg⟩ := he.2 enc W base spare held fuel c yd yp hc2 (weightsAll_at w2 yd hmem)
            refine ⟨x, hg, c, by rw [c3, he.1], hx, fun q u hq => ?_⟩
            have := c4 q u hq
            rw [he.1, add_add] at this
            exact this
          obtain ⟨l, hl, hr⟩ := list_of_all len hall
          refine ⟨l, ⟨some a, cap, by rw [hl], by omega, rfl, by unfold maxLen at hb3; omega, fun _ => ⟨a, rfl, fun j p hj => ?_⟩⟩, by omega, ?_, fun x hx => ?_⟩
          · obtain ⟨_, c, h3, h4, h5⟩ := hr j p hj
            exact ⟨c, h3, h4, h5⟩
          · have := of_decide_eq_true w1
            rw [hB, List.length_map, List.length_map] at this
            have h9 : l.length ≤ elems.length + rest.length := by omega
            exact Nat.le_trans (Nat.mul_le_mul_right _ h9) this
          · obtain ⟨j, hj⟩ := List.getElem?_of_mem hx
            exact (hr j x hj).1
      · cases h
/-- So many fields, from a place on. -/
def OpensF {α : Type} (P : Program) (fs : List Field) (off : Nat) (d : Kd α) (G : α → Prop) : Prop :=
  ∀ {H : Type} (enc : TypeId × Value → H) (W : World) (base : Nat) (spare : Nat → Bool) (held : Bool) (fuel : Nat) (cs : List Value) (xs : List (DataW H × List MemPlace)),
    (fs.mapM fun f => DataW.trod enc P W base spare held fuel f.type ((cs.drop f.offset).take (P.cellsOf f.type))) = some xs → (DataW.weightsEach P (fs.map (·.type)) (xs.map (·.1))).all (· ≤ reachBytes) = true →
    off + d.sz ≤ cs.length → ∃ x, d.K W x ((cs.drop off).take d.sz) ∧ G x
/-- A row's argument, opened. -/
theorem opens_arg {H : Type} {enc : TypeId × Value → H} {W : World} {α : Type} {t : TypeId} {d : Kd α} {G : α → Prop} {v : Value} {dat : DataW H} {ps : List MemPlace} (h : Opens P t d G) {ts : List TypeId} {ds : List (DataW H)} {j : Nat}
    (hsz : (DataW.weightsEach P ts ds).all (· ≤ reachBytes) = true) (ht : ts[j]? = some t) (hd : ds[j]? = some dat) (hr : DataW.Trod enc P W 0 (fun _ => true) true t v dat ps) : ∃ x, d.K W x v.cells.toList ∧ G x := by
  obtain ⟨fuel, hf⟩ := hr
  refine h.2 enc W 0 (fun _ => true) true fuel _ dat ps hf ?_
  clear hf h
  induction ts generalizing ds j with
  | nil => simp at ht
  | cons t0 ts ih =>
    cases ds with
    | nil => simp at hd
    | cons d0 ds =>
      simp only [DataW.weightsEach, List.all_append, Bool.and_eq_true] at hsz
      cases j with
      | zero => simp at ht hd; subst ht hd; exact hsz.1
      | succ j => exact ih hsz.2 (by simpa using ht) (by simpa using hd)
theorem arg_slice {α : Type} {e : TypeId} {d : Kd α} {W : World} {x : List α} {A : Option Addr} {n c : Nat} (h : (Kd.slice e d).K W x (Value.slice A n c).cells.toList) : n = x.length ∧ x.length ≤ c ∧ d.C W A x.length x := by
  obtain ⟨A', c', h1, h2, h3⟩ := h
  simp [Value.cells] at h1
  obtain ⟨rfl, rfl, rfl⟩ := h1
  exact ⟨rfl, h2, h3⟩
end
end Go.Proofs.Ythhncoogmncdkaa
