/- A matrix that is handed over and spoilt: what is its own, and what stays. No condition. -/
import Derived.Test.YtmmbojeikppinaaCopy
namespace Go.Proofs.Ytmmbojeikppinaa
open Go Go.RowKit Go.Proofs.YtmmbojeikppinaaW.PrintWords Go.Proofs.YtmmbojeikppinaaW.PrintLast Go.Proofs.YtmmbojeikppinaaW.PrintMore
set_option linter.unusedVariables false
/-- a block whose first cells are these -/
def RowV (W : World) (g : Nat) (t : TypeId) (c : Nat) (vs : List Value) : Prop :=
  ∃ cur : Array Value, W.heap[g]? = some (.cells cur t (0, 0)) ∧ vs.length ≤ c ∧ c ≤ maxLen ∧ cur.size = c ∧ cur.toList.take vs.length = vs
theorem RowV.lt {W : World} {g : Nat} {t : TypeId} {c : Nat} {vs : List Value} (h : RowV W g t c vs) : g < W.heap.size := by
  obtain ⟨cur, h1, _⟩ := h
  exact blk_lt h1
theorem RowV.keep {W W' : World} {g : Nat} {t : TypeId} {c : Nat} {vs : List Value} (h : RowV W g t c vs) (hk : W'.heap[g]? = W.heap[g]?) : RowV W' g t c vs := by
  obtain ⟨cur, h1, h2⟩ := h
  exact ⟨cur, hk.trans h1, h2⟩
theorem RowV.cell {W : World} {g : Nat} {t : TypeId} {c : Nat} {vs : List Value} (h : RowV W g t c vs) {i : Nat} (hi : i < vs.length) : W.cell? ⟨g, i, none⟩ = some vs[i] := by
  obtain ⟨cur, h1, h2, h3, h4, h5⟩ := h
  rw [blk_cell h1, ← Array.getElem?_toList]
  have : vs[i]? = (cur.toList.take vs.length)[i]? := by rw [h5]
  rw [List.getElem?_take_of_lt hi] at this
  rw [← this, List.getElem?_eq_getElem hi]
theorem RowV.frozen {W : World} {g : Nat} {t : TypeId} {c : Nat} {vs : List Value} (h : RowV W g t c vs) (i : Nat) : W.frozen? ⟨g, i, none⟩ = false := by
  obtain ⟨cur, h1, _⟩ := h
  exact blk_frozen h1 i
theorem RowV.set {W : World} {g : Nat} {t : TypeId} {c : Nat} {vs : List Value} (h : RowV W g t c vs) {i : Nat} (hi : i < vs.length) (v : Value) : RowV (W.setCell ⟨g, i, none⟩ v) g t c (vs.set i v) := by
  obtain ⟨cur, h1, h2, h3, h4, h5⟩ := h
  refine ⟨cur.setIfInBounds i v, blk_put h1 i v rfl, by simpa using h2, h3, by simpa using h4, ?_⟩
  rw [Array.toList_setIfInBounds, List.length_set, List.take_set, h5]
theorem RowV.far {W : World} {g : Nat} {t : TypeId} {c : Nat} {vs : List Value} (h : RowV W g t c vs) {p : Addr} (hp : g ≠ p.block) (v : Value) : RowV (W.setCell p v) g t c vs :=
  h.keep (Below.heap_setCell W p v g hp)
theorem RowV.R {W : World} {g base c : Nat} {l : List Int} (h : RowV W g 5 c (encs (Value.int .u8) l)) (hb : base ≤ g) : Kd.R (Kd.int .u8) 5 W base (fun k => k = g) (.slice (some ⟨g, 0, none⟩) l.length c) l := by
  obtain ⟨cur, h1, h2, h3, h4, h5⟩ := h
  have hl : (encs (Value.int .u8) l).length = l.length := by simp [encs]
  rw [hl] at h2 h5
  refine Kd.R_of_own (h1 := fun _ => rfl) ⟨by simp [encs], .inr ⟨g, c, cur, rfl, hb, h1, h2, h3, by rw [h4, Nat.mul_one], by rw [Nat.mul_one]; exact h5⟩⟩ (fun k hk => ?_)
  have : k = g := by simpa [Value.ownBlock, eq_comm] using hk
  exact this
theorem RowV.of_R {W : World} {g base c n : Nat} {l : List Int} {ok : Nat → Prop} (h : Kd.R (Kd.int .u8) 5 W base ok (.slice (some ⟨g, 0, none⟩) n c) l) : RowV W g 5 c (encs (Value.int .u8) l) ∧ l.length = n := by
  obtain ⟨_, inner, ho, hl, hrep⟩ := h
  have hn : n = l.length := (Kd.R_reads' ⟨‹_›, inner, ho, hl, hrep⟩).1
  subst hn
  have hi : inner = encs (Value.int .u8) l := by
    apply List.ext_getElem?
    intro j
    have hs : inner.length = l.length := by simpa [Kd.int, Kd.scalar] using hl
    by_cases hj : j < l.length
    · have := hrep j l[j] (List.getElem?_eq_getElem hj)
      have e : (inner.drop (j * 1)).take 1 = [Value.int .u8 l[j]] := this
      rw [Nat.mul_one, List.drop_eq_getElem_cons (by omega)] at e
      simp only [List.take_succ_cons, List.take_zero, List.cons.injEq, and_true] at e
      rw [List.getElem?_eq_getElem (by omega), e]
      simp [encs, hj]
    · rw [List.getElem?_eq_none (by omega), List.getElem?_eq_none (by simp [encs]; omega)]
  subst hi
  refine ⟨?_, rfl⟩
  rcases ho.2 with ⟨h0, _⟩ | ⟨g', cap, cur, hv, hb, hh, h2, h3, h4, h5⟩
  · cases h0
  · injection hv with hv1 hv2 hv3
    injection hv1 with hv1
    injection hv1 with hv1
    subst hv1 hv3
    refine ⟨cur, hh, by simpa [encs] using h2, h3, by simpa [Kd.int, Kd.scalar] using h4, ?_⟩
    have : cur.toList.take (l.length * 1) = encs (Value.int .u8) l := h5
    rw [Nat.mul_one] at this
    simpa [encs] using this
theorem RowV.of_raw {W : World} {g base c n : Nat} {t : TypeId} {rows : List (List Value)} {ok : Nat → Prop} (h : Kd.R (Kd.raw 1) t W base ok (.slice (some ⟨g, 0, none⟩) n c) rows) : ∃ vs : List Value, RowV W g t c vs ∧ vs.length = n ∧ n = rows.length ∧ base ≤ g := by
  obtain ⟨_, inner, ho, hl, hrep⟩ := h
  have hn : n = rows.length := (Kd.R_reads' ⟨‹_›, inner, ho, hl, hrep⟩).1
  have hi : inner.length = n := by rw [hl, hn]; simp [Kd.raw]
  rcases ho.2 with ⟨h0, _⟩ | ⟨g', cap, cur, hv, hb, hh, h2, h3, h4, h5⟩
  · cases h0
  · injection hv with hv1 hv2 hv3
    injection hv1 with hv1
    injection hv1 with hv1
    subst hv1 hv3
    refine ⟨inner, ⟨cur, hh, by omega, h3, by simpa [Kd.raw] using h4, ?_⟩, hi, hn, hb⟩
    have : cur.toList.take (rows.length * 1) = inner := h5
    rw [Nat.mul_one, ← hn, ← hi] at this
    exact this
def rw_ (M : List (List Int)) (i : Nat) : List Int := M.getD i []
theorem rw_set {M : List (List Int)} {i : Nat} (hi : i < M.length) (r : List Int) (k : Nat) : rw_ (M.set i r) k = if k = i then r else rw_ M k := by
  unfold rw_
  rw [List.getD_eq_getElem?_getD, List.getD_eq_getElem?_getD, List.getElem?_set]
  by_cases h : i = k
  · subst h; simp [hi]
  · rw [if_neg h, if_neg (fun z => h z.symm)]
def outC (n : Nat) (b c : Nat → Nat) (m : Nat) : List Value := (List.range n).map (fun i => Value.slice (some ⟨b i, 0, none⟩) m (c i))
theorem outC_length (n : Nat) (b c : Nat → Nat) (m : Nat) : (outC n b c m).length = n := by simp [outC]
def Mat (W : World) (S : Nat → Prop) (g cap : Nat) (b c : Nat → Nat) (M : List (List Int)) (m : Nat) : Prop :=
  RowV W g 23 cap (outC M.length b c m) ∧ S g ∧ (∀ i, i < M.length → b i ≠ g ∧ S (b i) ∧ (rw_ M i).length = m ∧ RowV W (b i) 5 (c i) (encs (Value.int .u8) (rw_ M i))) ∧ ∀ i j, i < M.length → j < M.length → b i = b j → i = j
section
variable {W W' : World} {S : Nat → Prop} {g cap m : Nat} {b c : Nat → Nat} {M : List (List Int)}
theorem Mat.out (h : Mat W S g cap b c M m) {i : Nat} (hi : i < M.length) : W.cell? ⟨g, i, none⟩ = some (.slice (some ⟨b i, 0, none⟩) m (c i)) := by
  have := h.1.cell (i := i) (by rw [outC_length]; exact hi)
  rw [this]
  simp [outC]
theorem Mat.at_ (h : Mat W S g cap b c M m) {i j : Nat} (hi : i < M.length) (hj : j < m) : W.cell? ⟨b i, j, none⟩ = some (.int .u8 (rd (rw_ M i) (j : Int))) := by
  obtain ⟨h1, h2, h3, h4⟩ := h.2.2.1 i hi
  have := h4.cell (i := j) (by simp [encs]; omega)
  rw [this]
  simp [encs, rd, show j < (rw_ M i).length by omega]
theorem Mat.keep (h : Mat W S g cap b c M m) (hk : ∀ k, S k → W'.heap[k]? = W.heap[k]?) : Mat W' S g cap b c M m :=
  ⟨h.1.keep (hk g h.2.1), h.2.1, fun i hi => ⟨(h.2.2.1 i hi).1, (h.2.2.1 i hi).2.1, (h.2.2.1 i hi).2.2.1, (h.2.2.1 i hi).2.2.2.keep (hk _ (h.2.2.1 i hi).2.1)⟩, h.2.2.2⟩
theorem Mat.size (h : Mat W S g cap b c M m) : Mat W (fun k => S k ∧ k < W.heap.size) g cap b c M m :=
  ⟨h.1, ⟨h.2.1, h.1.lt⟩, fun i hi => ⟨(h.2.2.1 i hi).1, ⟨(h.2.2.1 i hi).2.1, (h.2.2.1 i hi).2.2.2.lt⟩, (h.2.2.1 i hi).2.2⟩, h.2.2.2⟩
theorem Mat.mono {S' : Nat → Prop} (h : Mat W S g cap b c M m) (hS : ∀ k, S k → S' k) : Mat W S' g cap b c M m :=
  ⟨h.1, hS g h.2.1, fun i hi => ⟨(h.2.2.1 i hi).1, hS _ (h.2.2.1 i hi).2.1, (h.2.2.1 i hi).2.2⟩, h.2.2.2⟩
theorem Mat.below (h : Mat W S g cap b c M m) (hb : Below W.heap.size W W') : Mat W' S g cap b c M m :=
  (h.size.keep fun k hk => hb.block k hk.2).mono fun _ hk => hk.1
theorem Mat.len (h : Mat W S g cap b c M m) {i : Nat} (hi : i < M.length) : (rw_ M i).length = m := (h.2.2.1 i hi).2.2.1
theorem Mat.R (h : Mat W S g cap b c M m) {i base : Nat} (hi : i < M.length) (hb : base ≤ b i) : Kd.R (Kd.int .u8) 5 W base (fun k => k = b i) (.slice (some ⟨b i, 0, none⟩) m (c i)) (rw_ M i) := by
  obtain ⟨h1, h2, h3, h4⟩ := h.2.2.1 i hi
  have := h4.R hb
  rwa [h3] at this
theorem Mat.C (h : Mat W S g cap b c M m) {i : Nat} (hi : i < M.length) : Kd.C (Kd.int .u8) W (some ⟨b i, 0, none⟩) (rw_ M i).length (rw_ M i) ∧ (rw_ M i).length ≤ c i := by
  have := Kd.R_reads' (h.R hi (Nat.le_refl _))
  exact ⟨this.2.2, by rw [← this.1]; exact this.2.1⟩
theorem Mat.setrowV (h : Mat W S g cap b c M m) {i : Nat} {r : List Int} (hi : i < M.length) (hr : RowV W' (b i) 5 (c i) (encs (Value.int .u8) r)) (hl : r.length = m) (hk : ∀ k, S k → k < W.heap.size → k ≠ b i → W'.heap[k]? = W.heap[k]?) : Mat W' S g cap b c (M.set i r) m := by
  refine ⟨?_, h.2.1, fun k hk' => ?_, fun p q hp hq => h.2.2.2 p q (by simpa using hp) (by simpa using hq)⟩
  · rw [List.length_set]
    exact h.1.keep (hk g h.2.1 h.1.lt (fun z => (h.2.2.1 i hi).1 z.symm))
  · have hk2 : k < M.length := by simpa using hk'
    rw [rw_set hi]
    obtain ⟨h1, h2, h3, h4⟩ := h.2.2.1 k hk2
    by_cases e : k = i
    · subst e
      rw [if_pos rfl]
      exact ⟨h1, h2, hl, hr⟩
    · rw [if_neg e]
      exact ⟨h1, h2, h3, h4.keep (hk _ h2 h4.lt (fun z => e (h.2.2.2 _ _ hk2 hi z)))⟩
/-- one number is written -/
theorem Mat.store (h : Mat W S g cap b c M m) {i j : Nat} (hi : i < M.length) (hj : j < m) (v : Int) : Mat (W.setCell ⟨b i, j, none⟩ (.int .u8 v)) S g cap b c (M.set i ((rw_ M i).set j v)) m := by
  obtain ⟨h1, h2, h3, h4⟩ := h.2.2.1 i hi
  refine h.setrowV hi ?_ (by rw [List.length_set]; exact h3) (fun k _ _ hne => Below.heap_setCell _ ⟨b i, j, none⟩ _ k hne)
  have := h4.set (i := j) (by simp [encs]; omega) (.int .u8 v)
  have e : (encs (Value.int .u8) (rw_ M i)).set j (.int .u8 v) = encs (Value.int .u8) ((rw_ M i).set j v) := by simp [encs]
  rwa [e] at this
/-- cells are copied to the row's start -/
theorem Mat.copy (h : Mat W S g cap b c M m) {i : Nat} (hi : i < M.length) (l : List Int) (hl : l.length ≤ m) : ∃ cur : Array Value, W.heap[b i]? = some (.cells cur 5 (0, 0)) ∧ l.length ≤ cur.size ∧
    Mat (W.setRow (b i) (cur.toList.take 0 ++ (nums .u8 l ++ cur.toList.drop (0 + (nums .u8 l).length))).toArray) S g cap b c (M.set i (l ++ (rw_ M i).drop l.length)) m := by
  obtain ⟨h1, h2, h3, cur, q1, q2, q3, q4, q5⟩ := h.2.2.1 i hi
  have hr : (encs (Value.int .u8) (rw_ M i)).length = m := by simp [encs, h3]
  rw [hr] at q2 q5
  refine ⟨cur, q1, by omega, h.setrowV hi ⟨_, setRow_heap W (b i) _ _ _ _ q1, ?_, q3, ?_, ?_⟩ (by simp; omega) (fun k _ _ hne => setRow_other W (b i) k _ hne)⟩
  · simp [encs]; omega
  · simp [nums]; omega
  · have e : cur.toList.take 0 ++ (nums .u8 l ++ cur.toList.drop (0 + (nums .u8 l).length)) = nums .u8 l ++ cur.toList.drop l.length := by simp [nums]
    have e2 : (encs (Value.int .u8) (l ++ (rw_ M i).drop l.length)).length = m := by simp [encs]; omega
    rw [e, e2, List.toList_toArray, List.take_append]
    have e3 : (nums .u8 l).length = l.length := by simp [nums]
    rw [e3, List.take_of_length_le (by omega)]
    have e4 : (cur.toList.drop l.length).take (m - l.length) = (cur.toList.take m).drop l.length := by rw [List.drop_take]
    rw [e4, q5]
    simp [encs, nums]
theorem Mat.mid (h : Mat W S g cap b c M m) {i j : Nat} (hi : i < M.length) (hj : j < M.length) (v : Value) : (∃ X, (W.setCell ⟨g, i, none⟩ v).cell? ⟨g, j, none⟩ = some X) ∧ (W.setCell ⟨g, i, none⟩ v).frozen? ⟨g, j, none⟩ = false :=
  ⟨⟨_, (h.1.set (i := i) (by rw [outC_length]; exact hi) v).cell (i := j) (by rw [List.length_set, outC_length]; exact hj)⟩, (h.1.set (i := i) (by rw [outC_length]; exact hi) v).frozen j⟩
theorem Mat.kept {P : Nat → Prop} (h : Mat W S g cap b c M m) (hk : Kept W W' P) (hp : ∀ k, S k → ¬ P k) : Mat W' S g cap b c M m :=
  (h.size.keep fun k hk' => hk.2 k hk'.2 (hp k hk'.1)).mono fun _ hk => hk.1
theorem Mat.own (h : Mat W S g cap b c M m) {i : Nat} (hi : i < M.length) : S (b i) := (h.2.2.1 i hi).2.1
theorem Mat.other (h : Mat W S g cap b c M m) {i j : Nat} (hi : i < M.length) (hj : j < M.length) (hne : i ≠ j) : ∀ W_, Kept W W_ (fun k_ => k_ = b i) → Kd.C (Kd.int .u8) W_ (some ⟨b j, 0, none⟩) (rw_ M j).length (rw_ M j) := fun W_ hk => by
  have h1 := h.R hj (Nat.le_refl _)
  have h2 := Kd.R_step (w1 := W_) h1 (fun k ho hlt => by
    subst ho
    exact hk.2 _ hlt (fun z => hne (h.2.2.2 _ _ hj hi z).symm))
  exact (Kd.R_reads' h2).2.2
end
/-- rows of the call's own are a matrix -/
theorem Mat.of_S {W : World} {base : Nat} {ok : Nat → Prop} {v : Value} {M : List (List Int)} {m : Nat} (h : Kd.S (Kd.slice 5 (Kd.int .u8)) 23 W base ok v M) (hM : ∀ r ∈ M, r.length = m) (h0 : 0 < M.length) (hm : 0 < m) : ∃ g cap b c, v = .slice (some ⟨g, 0, none⟩) M.length cap ∧ M.length ≤ cap ∧ Mat W (fun k => base ≤ k) g cap b c M m := by
  obtain ⟨f, hf0, inner, ho, hl, hrep⟩ := h
  have hz : M.zipIdx.length = M.length := by simp
  rw [hz] at ho hl
  rcases ho.2 with ⟨_, h1⟩ | ⟨g, cap, cur, hv, hb, hh, h2, h3, h4, h5⟩
  · omega
  have hin : ∀ i, i < M.length → ∃ bi ci, inner[i]? = some (Value.slice (some ⟨bi, 0, none⟩) m ci) ∧ bi ≠ g ∧ base ≤ bi ∧ f bi = i ∧ RowV W bi 5 ci (encs (Value.int .u8) (rw_ M i)) := by
    intro i hi
    have hrl : (rw_ M i).length = m := hM _ (by simp [rw_, hi])
    have e1 : M.zipIdx[i]? = some (rw_ M i, i) := by
      rw [Kd.zip_at (p := rw_ M i) (by simp [rw_, hi])]
    have e2 : (Kd.tag f (Kd.slice 5 (Kd.int .u8))).M W base (fun k => ok k ∧ some k ≠ v.ownBlock) (rw_ M i, i) ((inner.drop (i * 1)).take 1) := hrep i _ e1
    obtain ⟨u, hu, hR⟩ := e2
    have hil : i < inner.length := by
      have : inner.length = M.length * 1 := hl
      omega
    rw [Nat.mul_one, List.drop_eq_getElem_cons hil] at hu
    simp only [List.take_succ_cons, List.take_zero, List.cons.injEq, and_true] at hu
    obtain ⟨bi, ci, hu2, hb2, hlt, cells, hc⟩ := Kd.R_form hR (by simp only; omega)
    simp only at hu2
    rw [hrl] at hu2
    subst hu2
    have hR1 := hR.1 bi (by simp [Value.ownBlock])
    refine ⟨bi, ci, by rw [List.getElem?_eq_getElem hil, hu], fun z => hR1.1.2 (by rw [hv, z]; simp [Value.ownBlock]), hb2, hR1.2, (RowV.of_R hR).1⟩
  have hch : ∃ b c : Nat → Nat, ∀ i, i < M.length → inner[i]? = some (Value.slice (some ⟨b i, 0, none⟩) m (c i)) ∧ b i ≠ g ∧ base ≤ b i ∧ f (b i) = i ∧ RowV W (b i) 5 (c i) (encs (Value.int .u8) (rw_ M i)) :=
    ⟨fun i => if hi : i < M.length then Classical.choose (hin i hi) else 0, fun i => if hi : i < M.length then Classical.choose (Classical.choose_spec (hin i hi)) else 0, fun i hi => by
      simp only [dif_pos hi]
      exact Classical.choose_spec (Classical.choose_spec (hin i hi))⟩
  obtain ⟨b, c, hbc⟩ := hch
  have hio : inner = outC M.length b c m := by
    apply List.ext_getElem?
    intro i
    by_cases hi : i < M.length
    · rw [(hbc i hi).1]; simp [outC, hi]
    · have : inner.length = M.length * 1 := hl
      rw [List.getElem?_eq_none (by omega), List.getElem?_eq_none (by simp [outC]; omega)]
  refine ⟨g, cap, b, c, hv, h2, ⟨cur, hh, by rw [outC_length]; exact h2, h3, ?_, ?_⟩, hb, fun i hi => ⟨(hbc i hi).2.1, (hbc i hi).2.2.1, hM _ (by simp [rw_, hi]), (hbc i hi).2.2.2.2⟩, fun i j hi hj e => ?_⟩
  · have : cur.size = cap * 1 := h4
    rw [this, Nat.mul_one]
  · rw [outC_length]
    have : cur.toList.take (M.length * 1) = inner := h5
    rw [Nat.mul_one] at this
    rw [this, hio]
  · rw [← (hbc i hi).2.2.2.1, ← (hbc j hj).2.2.2.1, e]
end Go.Proofs.Ytmmbojeikppinaa
namespace Go.Proofs.Ytmmbojeikppinaa
open Go Go.RowKit Go.Proofs.YtmmbojeikppinaaW.PrintWords Go.Proofs.YtmmbojeikppinaaW.PrintLast Go.Proofs.YtmmbojeikppinaaW.PrintMore
set_option linter.unusedVariables false
/-- rows of the call's own are a matrix -/
theorem Mat.of_SQ {W : World} {base : Nat} {ok : Nat → Prop} {v : Value} {M : List (List Int)} {m : Nat} (h : Kd.S (Kd.slice 5 (Kd.int .u8)) 23 W base ok v M) (hM : ∀ r ∈ M, r.length = m) (h0 : 0 < M.length) (hm : 0 < m) : ∃ g cap b c, v = .slice (some ⟨g, 0, none⟩) M.length cap ∧ M.length ≤ cap ∧ Mat W (fun k => base ≤ k ∧ ok k) g cap b c M m := by
  obtain ⟨f, hf0, inner, ho, hl, hrep⟩ := h
  have hz : M.zipIdx.length = M.length := by simp
  rw [hz] at ho hl
  rcases ho.2 with ⟨_, h1⟩ | ⟨g, cap, cur, hv, hb, hh, h2, h3, h4, h5⟩
  · omega
  have hin : ∀ i, i < M.length → ∃ bi ci, inner[i]? = some (Value.slice (some ⟨bi, 0, none⟩) m ci) ∧ bi ≠ g ∧ (base ≤ bi ∧ ok bi) ∧ f bi = i ∧ RowV W bi 5 ci (encs (Value.int .u8) (rw_ M i)) := by
    intro i hi
    have hrl : (rw_ M i).length = m := hM _ (by simp [rw_, hi])
    have e1 : M.zipIdx[i]? = some (rw_ M i, i) := by
      rw [Kd.zip_at (p := rw_ M i) (by simp [rw_, hi])]
    have e2 : (Kd.tag f (Kd.slice 5 (Kd.int .u8))).M W base (fun k => ok k ∧ some k ≠ v.ownBlock) (rw_ M i, i) ((inner.drop (i * 1)).take 1) := hrep i _ e1
    obtain ⟨u, hu, hR⟩ := e2
    have hil : i < inner.length := by
      have : inner.length = M.length * 1 := hl
      omega
    rw [Nat.mul_one, List.drop_eq_getElem_cons hil] at hu
    simp only [List.take_succ_cons, List.take_zero, List.cons.injEq, and_true] at hu
    obtain ⟨bi, ci, hu2, hb2, hlt, cells, hc⟩ := Kd.R_form hR (by simp only; omega)
    simp only at hu2
    rw [hrl] at hu2
    subst hu2
    have hR1 := hR.1 bi (by simp [Value.ownBlock])
    refine ⟨bi, ci, by rw [List.getElem?_eq_getElem hil, hu], fun z => hR1.1.2 (by rw [hv, z]; simp [Value.ownBlock]), ⟨hb2, hR1.1.1⟩, hR1.2, (RowV.of_R hR).1⟩
  have hch : ∃ b c : Nat → Nat, ∀ i, i < M.length → inner[i]? = some (Value.slice (some ⟨b i, 0, none⟩) m (c i)) ∧ b i ≠ g ∧ (base ≤ b i ∧ ok (b i)) ∧ f (b i) = i ∧ RowV W (b i) 5 (c i) (encs (Value.int .u8) (rw_ M i)) :=
    ⟨fun i => if hi : i < M.length then Classical.choose (hin i hi) else 0, fun i => if hi : i < M.length then Classical.choose (Classical.choose_spec (hin i hi)) else 0, fun i hi => by
      simp only [dif_pos hi]
      exact Classical.choose_spec (Classical.choose_spec (hin i hi))⟩
  obtain ⟨b, c, hbc⟩ := hch
  have hio : inner = outC M.length b c m := by
    apply List.ext_getElem?
    intro i
    by_cases hi : i < M.length
    · rw [(hbc i hi).1]; simp [outC, hi]
    · have : inner.length = M.length * 1 := hl
      rw [List.getElem?_eq_none (by omega), List.getElem?_eq_none (by simp [outC]; omega)]
  refine ⟨g, cap, b, c, hv, h2, ⟨cur, hh, by rw [outC_length]; exact h2, h3, ?_, ?_⟩, ⟨hb, hf0 g (by rw [hv]; simp [Value.ownBlock])⟩, fun i hi => ⟨(hbc i hi).2.1, (hbc i hi).2.2.1, hM _ (by simp [rw_, hi]), (hbc i hi).2.2.2.2⟩, fun i j hi hj e => ?_⟩
  · have : cur.size = cap * 1 := h4
    rw [this, Nat.mul_one]
  · rw [outC_length]
    have : cur.toList.take (M.length * 1) = inner := h5
    rw [Nat.mul_one] at this
    rw [this, hio]
  · rw [← (hbc i hi).2.2.2.1, ← (hbc j hj).2.2.2.1, e]
theorem lit8 {W : World} {g : Nat} {xs : List Int} {e : TypeId} {cs : Array Value} (h : W.heap[g]? = some (.cells cs e (0, 0))) (hcs : cs = (encs (Value.int .u8) xs).toArray) (hl : xs.length ≤ 1000) : Kd.C (Kd.int .u8) W (some ⟨g, 0, none⟩) xs.length xs := by
  subst hcs
  have hown := own_of_block (base := 0) h (Nat.zero_le _) (by simp [encs, maxLen]; omega)
  have hlen : (encs (Value.int .u8) xs).length = xs.length := by simp [encs]
  rw [hlen] at hown
  exact (Kd.R_reads' (Kd.R_of_own (h1 := fun _ => rfl) (ok := fun _ => True) hown (fun _ _ => trivial))).2.2
/-- rows from i on are as they may be; nothing but Q's blocks has changed -/
def Sp (w wx : World) (Q : Nat → Prop) (g cap n m i : Nat) (b c : Nat → Nat) : Prop :=
  RowV wx g 23 cap (outC n b c m) ∧ Q g ∧ (∀ q, q < n → b q ≠ g ∧ Q (b q)) ∧ (∀ p q, p < n → q < n → b p = b q → p = q) ∧ (∀ q, i ≤ q → q < n → ∃ r : List Int, r.length = m ∧ RowV wx (b q) 5 (c q) (encs (Value.int .u8) r)) ∧ Kept w wx Q
theorem Sp.start {W : World} {Q : Nat → Prop} {g cap m : Nat} {b c : Nat → Nat} {M : List (List Int)} (h : Mat W Q g cap b c M m) : Sp W W Q g cap M.length m 0 b c :=
  ⟨h.1, h.2.1, fun q hq => ⟨(h.2.2.1 q hq).1, (h.2.2.1 q hq).2.1⟩, h.2.2.2, fun q _ hq => ⟨_, (h.2.2.1 q hq).2.2.1, (h.2.2.1 q hq).2.2.2⟩, Kept.refl W Q⟩
theorem Sp.out {w wx : World} {Q : Nat → Prop} {g cap n m i : Nat} {b c : Nat → Nat} (h : Sp w wx Q g cap n m i b c) {q : Nat} (hq : q < n) : wx.cell? ⟨g, q, none⟩ = some (.slice (some ⟨b q, 0, none⟩) m (c q)) := by
  have := h.1.cell (i := q) (by rw [outC_length]; exact hq)
  rw [this]
  simp [outC]
theorem Sp.below {w wx wy : World} {Q : Nat → Prop} {g cap n m i : Nat} {b c : Nat → Nat} (h : Sp w wx Q g cap n m i b c) (hb : Below wx.heap.size wx wy) : Sp w wy Q g cap n m i b c :=
  ⟨h.1.keep (hb.block _ h.1.lt), h.2.1, h.2.2.1, h.2.2.2.1, fun q h1 h2 => by
    obtain ⟨r, hr1, hr2⟩ := h.2.2.2.2.1 q h1 h2
    exact ⟨r, hr1, hr2.keep (hb.block _ hr2.lt)⟩, ⟨Nat.le_trans h.2.2.2.2.2.1 hb.size, fun k hk hq => (hb.block k (Nat.lt_of_lt_of_le hk h.2.2.2.2.2.1)).trans (h.2.2.2.2.2.2 k hk hq)⟩⟩
/-- the row i is written somewhere, or a new block -/
theorem Sp.step {w wx wy : World} {Q : Nat → Prop} {g cap n m i : Nat} {b c : Nat → Nat} (h : Sp w wx Q g cap n m i b c) (hi : i < n) (hs : wx.heap.size ≤ wy.heap.size) (hk : ∀ k, k < wx.heap.size → k ≠ b i → wy.heap[k]? = wx.heap[k]?) : Sp w wy Q g cap n m (i + 1) b c :=
  ⟨h.1.keep (hk g h.1.lt (fun z => (h.2.2.1 i hi).1 z.symm)), h.2.1, h.2.2.1, h.2.2.2.1, fun q h1 h2 => by
    obtain ⟨r, hr1, hr2⟩ := h.2.2.2.2.1 q (by omega) h2
    exact ⟨r, hr1, hr2.keep (hk _ hr2.lt (fun z => by have := h.2.2.2.1 q i h2 hi z; omega))⟩, ⟨Nat.le_trans h.2.2.2.2.2.1 hs, fun k hk' hq => (hk k (Nat.lt_of_lt_of_le hk' h.2.2.2.2.2.1) (fun z => hq (z ▸ (h.2.2.1 i hi).2))).trans (h.2.2.2.2.2.2 k hk' hq)⟩⟩
theorem Sp.store {w wx : World} {Q : Nat → Prop} {g cap n m i : Nat} {b c : Nat → Nat} (h : Sp w wx Q g cap n m i b c) (hi : i < n) {j : Nat} (hj : j < m) (v : Int) : Sp w (wx.setCell ⟨b i, j, none⟩ (.int .u8 v)) Q g cap n m i b c :=
  ⟨h.1.far (p := ⟨b i, j, none⟩) (fun z => (h.2.2.1 i hi).1 z.symm) _, h.2.1, h.2.2.1, h.2.2.2.1, fun q h1 h2 => by
    obtain ⟨r, hr1, hr2⟩ := h.2.2.2.2.1 q h1 h2
    by_cases e : q = i
    · subst e
      refine ⟨r.set j v, by simpa using hr1, ?_⟩
      have := hr2.set (i := j) (by simp [encs]; omega) (.int .u8 v)
      have e : (encs (Value.int .u8) r).set j (.int .u8 v) = encs (Value.int .u8) (r.set j v) := by simp [encs]
      rwa [e] at this
    · exact ⟨r, hr1, hr2.far (p := ⟨b i, j, none⟩) (fun z => e (h.2.2.2.1 q i h2 hi z)) _⟩, ⟨by have := h.2.2.2.2.2.1; simpa using this, fun k hk' hq => (Below.heap_setCell _ ⟨b i, j, none⟩ _ k (fun z => hq (z ▸ (h.2.2.1 i hi).2))).trans (h.2.2.2.2.2.2 k hk' hq)⟩⟩
end Go.Proofs.Ytmmbojeikppinaa
