/- A matrix of the call's own: a block of slices, and a block for each row. No condition. -/
import Derived.Test.YthhncoogmncdkaaMxMade
namespace Go.Proofs.Ythhncoogmncdkaa
open Go Go.RowKit Go.Proofs.YthhncoogmncdkaaW.PrintWords Go.Proofs.YthhncoogmncdkaaW.PrintLast Go.Proofs.YthhncoogmncdkaaW.PrintMore
set_option linter.unusedVariables false
/-- a block whose first cells are these -/
def RowV (W : World) (g : Nat) (t : TypeId) (c : Nat) (vs : List Value) : Prop :=
  ∃ cur : Array Value, W.heap[g]? = some (.cells cur t (0, 0)) ∧ vs.length ≤ c ∧ c ≤ maxLen ∧ cur.size = c ∧ cur.toList.take vs.length = vs
theorem RowV.lt {W : World} {g : Nat} {t : TypeId} {c : Nat} {vs : List Value} (h : RowV W g t c vs) : g < W.heap.size := by
  obtain ⟨cur, h1, _⟩ := h
  exact blk_lt h1
theorem RowV.keep {W W' : World} {g : Nat} {t : TypeId} {c : Nat} {vs : List Value} (h : RowV W g t c vs) (hk : W'.heap[g]? = W.heap[g]?) : RowV W' g t c vs := by
  obtain ⟨cur, h1, h2⟩ := h
  exact ⟨cur, hk.trans h1, h2⟩
theorem RowV.cell {W : World} {g : Nat} {t : TypeId} {c : Nat} {vs : List Value} (h : RowV W g t c vs) {i : Nat} (hi : i < vs.length) : W.cell? ⟨g, i, none⟩ = some vs[i] := by
  obtain ⟨cur, h1, h2, h3, h4, h5⟩ := h
  rw [blk_cell h1, ← Array.getElem?_toList]
  have : vs[i]? = (cur.toList.take vs.length)[i]? := by rw [h5]
  rw [List.getElem?_take_of_lt hi] at this
  rw [← this, List.getElem?_eq_getElem hi]
theorem RowV.frozen {W : World} {g : Nat} {t : TypeId} {c : Nat} {vs : List Value} (h : RowV W g t c vs) (i : Nat) : W.frozen? ⟨g, i, none⟩ = false := by
  obtain ⟨cur, h1, _⟩ := h
  exact blk_frozen h1 i
theorem RowV.set {W : World} {g : Nat} {t : TypeId} {c : Nat} {vs : List Value} (h : RowV W g t c vs) {i : Nat} (hi : i < vs.length) (v : Value) : RowV (W.setCell ⟨g, i, none⟩ v) g t c (vs.set i v) := by
  obtain ⟨cur, h1, h2, h3, h4, h5⟩ := h
  refine ⟨cur.setIfInBounds i v, blk_put h1 i v rfl, by simpa using h2, h3, by simpa using h4, ?_⟩
  rw [Array.toList_setIfInBounds, List.length_set, List.take_set, h5]
theorem RowV.far {W : World} {g : Nat} {t : TypeId} {c : Nat} {vs : List Value} (h : RowV W g t c vs) {p : Addr} (hp : g ≠ p.block) (v : Value) : RowV (W.setCell p v) g t c vs :=
  h.keep (Below.heap_setCell W p v g hp)
theorem RowV.R {W : World} {g base c : Nat} {l : List Int} (h : RowV W g 5 c (encs (Value.int .u8) l)) (hb : base ≤ g) : Kd.R (Kd.int .u8) 5 W base (fun k => k = g) (.slice (some ⟨g, 0, none⟩) l.length c) l := by
  obtain ⟨cur, h1, h2, h3, h4, h5⟩ := h
  have hl : (encs (Value.int .u8) l).length = l.length := by simp [encs]
  rw [hl] at h2 h5
  refine Kd.R_of_own (h1 := fun _ => rfl) ⟨by simp [encs], .inr ⟨g, c, cur, rfl, hb, h1, h2, h3, by rw [h4, Nat.mul_one], by rw [Nat.mul_one]; exact h5⟩⟩ (fun k hk => ?_)
  have : k = g := by simpa [Value.ownBlock, eq_comm] using hk
  exact this
theorem RowV.of_R {W : World} {g base c n : Nat} {l : List Int} {ok : Nat → Prop} (h : Kd.R (Kd.int .u8) 5 W base ok (.slice (some ⟨g, 0, none⟩) n c) l) : RowV W g 5 c (encs (Value.int .u8) l) ∧ l.length = n := by
  obtain ⟨_, inner, ho, hl, hrep⟩ := h
  have hn : n = l.length := (Kd.R_reads' ⟨‹_›, inner, ho, hl, hrep⟩).1
  subst hn
  have hi : inner = encs (Value.int .u8) l := by
    apply List.ext_getElem?
    intro j
    have hs : inner.length = l.length := by simpa [Kd.int, Kd.scalar] using hl
    by_cases hj : j < l.length
    · have := hrep j l[j] (List.getElem?_eq_getElem hj)
      have e : (inner.drop (j * 1)).take 1 = [Value.int .u8 l[j]] := this
      rw [Nat.mul_one, List.drop_eq_getElem_cons (by omega)] at e
      simp only [List.take_succ_cons, List.take_zero, List.cons.injEq, and_true] at e
      rw [List.getElem?_eq_getElem (by omega), e]
      simp [encs, hj]
    · rw [List.getElem?_eq_none (by omega), List.getElem?_eq_none (by simp [encs]; omega)]
  subst hi
  refine ⟨?_, rfl⟩
  rcases ho.2 with ⟨h0, _⟩ | ⟨g', cap, cur, hv, hb, hh, h2, h3, h4, h5⟩
  · cases h0
  · injection hv with hv1 hv2 hv3
    injection hv1 with hv1
    injection hv1 with hv1
    subst hv1 hv3
    refine ⟨cur, hh, by simpa [encs] using h2, h3, by simpa [Kd.int, Kd.scalar] using h4, ?_⟩
    have : cur.toList.take (l.length * 1) = encs (Value.int .u8) l := h5
    rw [Nat.mul_one] at this
    simpa [encs] using this
theorem RowV.of_raw {W : World} {g base c n : Nat} {t : TypeId} {rows : List (List Value)} {ok : Nat → Prop} (h : Kd.R (Kd.raw 1) t W base ok (.slice (some ⟨g, 0, none⟩) n c) rows) : ∃ vs : List Value, RowV W g t c vs ∧ vs.length = n ∧ n = rows.length ∧ base ≤ g := by
  obtain ⟨_, inner, ho, hl, hrep⟩ := h
  have hn : n = rows.length := (Kd.R_reads' ⟨‹_›, inner, ho, hl, hrep⟩).1
  have hi : inner.length = n := by rw [hl, hn]; simp [Kd.raw]
  rcases ho.2 with ⟨h0, _⟩ | ⟨g', cap, cur, hv, hb, hh, h2, h3, h4, h5⟩
  · cases h0
  · injection hv with hv1 hv2 hv3
    injection hv1 with hv1
    injection hv1 with hv1
    subst hv1 hv3
    refine ⟨inner, ⟨cur, hh, by omega, h3, by simpa [Kd.raw] using h4, ?_⟩, hi, hn, hb⟩
    have : cur.toList.take (rows.length * 1) = inner := h5
    rw [Nat.mul_one, ← hn, ← hi] at this
    exact this
def rw_ (M : List (List Int)) (i : Nat) : List Int := M.getD i []
theorem rw_set {M : List (List Int)} {i : Nat} (hi : i < M.length) (r : List Int) (k : Nat) : rw_ (M.set i r) k = if k = i then r else rw_ M k := by
  unfold rw_
  rw [List.getD_eq_getElem?_getD, List.getD_eq_getElem?_getD, List.getElem?_set]
  by_cases h : i = k
  · subst h; simp [hi]
  · rw [if_neg h, if_neg (fun z => h z.symm)]
def outC (n : Nat) (b c : Nat → Nat) (m : Nat) : List Value := (List.range n).map (fun i => Value.slice (some ⟨b i, 0, none⟩) m (c i))
theorem outC_length (n : Nat) (b c : Nat → Nat) (m : Nat) : (outC n b c m).length = n := by simp [outC]
def Mat (W : World) (S : Nat → Prop) (g cap : Nat) (b c : Nat → Nat) (M : List (List Int)) (m : Nat) : Prop :=
  RowV W g 23 cap (outC M.length b c m) ∧ S g ∧ (∀ i, i < M.length → b i ≠ g ∧ S (b i) ∧ (rw_ M i).length = m ∧ RowV W (b i) 5 (c i) (encs (Value.int .u8) (rw_ M i))) ∧ ∀ i j, i < M.length → j < M.length → b i = b j → i = j
section
variable {W W' : World} {S : Nat → Prop} {g cap m : Nat} {b c : Nat → Nat} {M : List (List Int)}
theorem Mat.out (h : Mat W S g cap b c M m) {i : Nat} (hi : i < M.length) : W.cell? ⟨g, i, none⟩ = some (.slice (some ⟨b i, 0, none⟩) m (c i)) := by
  have := h.1.cell (i := i) (by rw [outC_length]; exact hi)
  rw [this]
  simp [outC]
theorem Mat.outF (h : Mat W S g cap b c M m) (i : Nat) : W.frozen? ⟨g, i, none⟩ = false := h.1.frozen i
theorem Mat.at_ (h : Mat W S g cap b c M m) {i j : Nat} (hi : i < M.length) (hj : j < m) : W.cell? ⟨b i, j, none⟩ = some (.int .u8 (rd (rw_ M i) (j : Int))) := by
  obtain ⟨h1, h2, h3, h4⟩ := h.2.2.1 i hi
  have := h4.cell (i := j) (by simp [encs]; omega)
  rw [this]
  simp [encs, rd, show j < (rw_ M i).length by omega]
theorem Mat.keep (h : Mat W S g cap b c M m) (hk : ∀ k, S k → W'.heap[k]? = W.heap[k]?) : Mat W' S g cap b c M m :=
  ⟨h.1.keep (hk g h.2.1), h.2.1, fun i hi => ⟨(h.2.2.1 i hi).1, (h.2.2.1 i hi).2.1, (h.2.2.1 i hi).2.2.1, (h.2.2.1 i hi).2.2.2.keep (hk _ (h.2.2.1 i hi).2.1)⟩, h.2.2.2⟩
theorem Mat.size (h : Mat W S g cap b c M m) : Mat W (fun k => S k ∧ k < W.heap.size) g cap b c M m :=
  ⟨h.1, ⟨h.2.1, h.1.lt⟩, fun i hi => ⟨(h.2.2.1 i hi).1, ⟨(h.2.2.1 i hi).2.1, (h.2.2.1 i hi).2.2.2.lt⟩, (h.2.2.1 i hi).2.2⟩, h.2.2.2⟩
theorem Mat.mono {S' : Nat → Prop} (h : Mat W S g cap b c M m) (hS : ∀ k, S k → S' k) : Mat W S' g cap b c M m :=
  ⟨h.1, hS g h.2.1, fun i hi => ⟨(h.2.2.1 i hi).1, hS _ (h.2.2.1 i hi).2.1, (h.2.2.1 i hi).2.2⟩, h.2.2.2⟩
theorem Mat.below (h : Mat W S g cap b c M m) (hb : Below W.heap.size W W') : Mat W' S g cap b c M m :=
  (h.size.keep fun k hk => hb.block k hk.2).mono fun _ hk => hk.1
theorem Mat.len (h : Mat W S g cap b c M m) {i : Nat} (hi : i < M.length) : (rw_ M i).length = m := (h.2.2.1 i hi).2.2.1
theorem Mat.R (h : Mat W S g cap b c M m) {i base : Nat} (hi : i < M.length) (hb : base ≤ b i) : Kd.R (Kd.int .u8) 5 W base (fun k => k = b i) (.slice (some ⟨b i, 0, none⟩) m (c i)) (rw_ M i) := by
  obtain ⟨h1, h2, h3, h4⟩ := h.2.2.1 i hi
  have := h4.R hb
  rwa [h3] at this
theorem Mat.C (h : Mat W S g cap b c M m) {i : Nat} (hi : i < M.length) : Kd.C (Kd.int .u8) W (some ⟨b i, 0, none⟩) (rw_ M i).length (rw_ M i) ∧ (rw_ M i).length ≤ c i := by
  have := Kd.R_reads' (h.R hi (Nat.le_refl _))
  exact ⟨this.2.2, by rw [← this.1]; exact this.2.1⟩
/-- a row is written -/
theorem Mat.setrow (h : Mat W S g cap b c M m) {i base : Nat} {ok : Nat → Prop} {r : List Int} (hi : i < M.length) (hr : Kd.R (Kd.int .u8) 5 W' base ok (.slice (some ⟨b i, 0, none⟩) m (c i)) r) (hk : ∀ k, S k → k < W.heap.size → k ≠ b i → W'.heap[k]? = W.heap[k]?) : Mat W' S g cap b c (M.set i r) m := by
  obtain ⟨hr1, hr2⟩ := RowV.of_R hr
  refine ⟨?_, h.2.1, fun k hk' => ?_, fun p q hp hq => h.2.2.2 p q (by simpa using hp) (by simpa using hq)⟩
  · rw [List.length_set]
    exact h.1.keep (hk g h.2.1 h.1.lt (fun z => (h.2.2.1 i hi).1 z.symm))
  · have hk2 : k < M.length := by simpa using hk'
    rw [rw_set hi]
    obtain ⟨h1, h2, h3, h4⟩ := h.2.2.1 k hk2
    by_cases e : k = i
    · subst e
      rw [if_pos rfl]
      exact ⟨h1, h2, hr2, hr1⟩
    · rw [if_neg e]
      exact ⟨h1, h2, h3, h4.keep (hk _ h2 h4.lt (fun z => e (h.2.2.2 _ _ hk2 hi z)))⟩
theorem Mat.setrowV (h : Mat W S g cap b c M m) {i : Nat} {r : List Int} (hi : i < M.length) (hr : RowV W' (b i) 5 (c i) (encs (Value.int .u8) r)) (hl : r.length = m) (hk : ∀ k, S k → k < W.heap.size → k ≠ b i → W'.heap[k]? = W.heap[k]?) : Mat W' S g cap b c (M.set i r) m := by
  refine ⟨?_, h.2.1, fun k hk' => ?_, fun p q hp hq => h.2.2.2 p q (by simpa using hp) (by simpa using hq)⟩
  · rw [List.length_set]
    exact h.1.keep (hk g h.2.1 h.1.lt (fun z => (h.2.2.1 i hi).1 z.symm))
  · have hk2 : k < M.length := by simpa using hk'
    rw [rw_set hi]
    obtain ⟨h1, h2, h3, h4⟩ := h.2.2.1 k hk2
    by_cases e : k = i
    · subst e
      rw [if_pos rfl]
      exact ⟨h1, h2, hl, hr⟩
    · rw [if_neg e]
      exact ⟨h1, h2, h3, h4.keep (hk _ h2 h4.lt (fun z => e (h.2.2.2 _ _ hk2 hi z)))⟩
/-- one number is written -/
theorem Mat.store (h : Mat W S g cap b c M m) {i j : Nat} (hi : i < M.length) (hj : j < m) (v : Int) : Mat (W.setCell ⟨b i, j, none⟩ (.int .u8 v)) S g cap b c (M.set i ((rw_ M i).set j v)) m := by
  obtain ⟨h1, h2, h3, h4⟩ := h.2.2.1 i hi
  refine h.setrowV hi ?_ (by rw [List.length_set]; exact h3) (fun k _ _ hne => Below.heap_setCell _ ⟨b i, j, none⟩ _ k hne)
  have := h4.set (i := j) (by simp [encs]; omega) (.int .u8 v)
  have e : (encs (Value.int .u8) (rw_ M i)).set j (.int .u8 v) = encs (Value.int .u8) ((rw_ M i).set j v) := by simp [encs]
  rwa [e] at this
theorem Mat.atF (h : Mat W S g cap b c M m) {i : Nat} (hi : i < M.length) (j : Nat) : W.frozen? ⟨b i, j, none⟩ = false := (h.2.2.1 i hi).2.2.2.frozen j
/-- cells are copied to the row's start -/
theorem Mat.copy (h : Mat W S g cap b c M m) {i : Nat} (hi : i < M.length) (l : List Int) (hl : l.length ≤ m) : ∃ cur : Array Value, W.heap[b i]? = some (.cells cur 5 (0, 0)) ∧ l.length ≤ cur.size ∧
    Mat (W.setRow (b i) (cur.toList.take 0 ++ (nums .u8 l ++ cur.toList.drop (0 + (nums .u8 l).length))).toArray) S g cap b c (M.set i (l ++ (rw_ M i).drop l.length)) m := by
  obtain ⟨h1, h2, h3, cur, q1, q2, q3, q4, q5⟩ := h.2.2.1 i hi
  have hr : (encs (Value.int .u8) (rw_ M i)).length = m := by simp [encs, h3]
  rw [hr] at q2 q5
  refine ⟨cur, q1, by omega, h.setrowV hi ⟨_, setRow_heap W (b i) _ _ _ _ q1, ?_, q3, ?_, ?_⟩ (by simp; omega) (fun k _ _ hne => setRow_other W (b i) k _ hne)⟩
  · simp [encs]; omega
  · simp [nums]; omega
  · have e : cur.toList.take 0 ++ (nums .u8 l ++ cur.toList.drop (0 + (nums .u8 l).length)) = nums .u8 l ++ cur.toList.drop l.length := by simp [nums]
    have e2 : (encs (Value.int .u8) (l ++ (rw_ M i).drop l.length)).length = m := by simp [encs]; omega
    rw [e, e2, List.toList_toArray, List.take_append]
    have e3 : (nums .u8 l).length = l.length := by simp [nums]
    rw [e3, List.take_of_length_le (by omega)]
    have e4 : (cur.toList.drop l.length).take (m - l.length) = (cur.toList.take m).drop l.length := by rw [List.drop_take]
    rw [e4, q5]
    simp [encs, nums]
/-- two rows change places -/
def swp (i j : Nat) {α : Type} (f : Nat → α) (k : Nat) : α := if k = i then f j else if k = j then f i else f k
def swL (M : List (List Int)) (i j : Nat) : List (List Int) := (M.set i (rw_ M j)).set j (rw_ M i)
theorem swL_len (M : List (List Int)) (i j : Nat) : (swL M i j).length = M.length := by simp [swL]
theorem rw_swL {M : List (List Int)} {i j : Nat} (hi : i < M.length) (hj : j < M.length) (k : Nat) : rw_ (swL M i j) k = swp i j (rw_ M) k := by
  unfold swL swp
  rw [rw_set (by simpa using hj), rw_set hi]
  by_cases e : k = j
  · by_cases e2 : k = i
    · rw [if_pos e, if_pos e2, ← e2, e]
    · rw [if_pos e, if_neg e2, if_pos e]
  · rw [if_neg e]
    by_cases e2 : k = i
    · rw [if_pos e2, if_pos e2]
    · rw [if_neg e2, if_neg e2, if_neg e]
theorem Mat.swap (h : Mat W S g cap b c M m) {i j : Nat} (hi : i < M.length) (hj : j < M.length) : Mat ((W.setCell ⟨g, i, none⟩ (.slice (some ⟨b j, 0, none⟩) m (c j))).setCell ⟨g, j, none⟩ (.slice (some ⟨b i, 0, none⟩) m (c i))) S g cap (swp i j b) (swp i j c) (swL M i j) m := by
  refine ⟨?_, h.2.1, fun k hk => ?_, fun p q hp hq e => ?_⟩
  · have := (h.1.set (i := i) (by rw [outC_length]; exact hi) (.slice (some ⟨b j, 0, none⟩) m (c j))).set (i := j) (by rw [List.length_set, outC_length]; exact hj) (.slice (some ⟨b i, 0, none⟩) m (c i))
    rw [swL_len]
    have e : ((outC M.length b c m).set i (.slice (some ⟨b j, 0, none⟩) m (c j))).set j (.slice (some ⟨b i, 0, none⟩) m (c i)) = outC M.length (swp i j b) (swp i j c) m := by
      apply List.ext_getElem?
      intro k
      by_cases hk : k < M.length
      · rw [List.getElem?_set, List.getElem?_set]
        simp only [outC, List.length_set, List.length_map, List.length_range, List.getElem?_map, List.getElem?_range hk, Option.map_some, swp]
        by_cases e1 : j = k
        · subst e1
          by_cases e2 : j = i
          · subst e2; simp [hk]
          · simp [hk, e2]
        · by_cases e2 : i = k
          · subst e2; simp [hk, e1]
          · have n1 : ¬ k = i := fun z => e2 z.symm
            have n2 : ¬ k = j := fun z => e1 z.symm
            simp [e1, e2, n1, n2]
      · rw [List.getElem?_eq_none (by simp [outC]; omega), List.getElem?_eq_none (by simp [outC]; omega)]
    rw [e] at this
    exact this
  · rw [swL_len] at hk
    rw [rw_swL hi hj]
    have hall : ∀ q, q < M.length → b q ≠ g ∧ S (b q) ∧ (rw_ M q).length = m ∧ RowV ((W.setCell ⟨g, i, none⟩ (.slice (some ⟨b j, 0, none⟩) m (c j))).setCell ⟨g, j, none⟩ (.slice (some ⟨b i, 0, none⟩) m (c i))) (b q) 5 (c q) (encs (Value.int .u8) (rw_ M q)) := fun q hq => by
      obtain ⟨h1, h2, h3, h4⟩ := h.2.2.1 q hq
      exact ⟨h1, h2, h3, (h4.far (p := ⟨g, i, none⟩) h1 _).far (p := ⟨g, j, none⟩) h1 _⟩
    unfold swp
    by_cases e1 : k = i
    · simp only [if_pos e1]; exact hall j hj
    · by_cases e2 : k = j
      · simp only [if_neg e1, if_pos e2]; exact hall i hi
      · simp only [if_neg e1, if_neg e2]; exact hall k hk
  · rw [swL_len] at hp hq
    unfold swp at e
    split at e <;> split at e <;> (try split at e) <;> (try split at e) <;> (first | omega | (have := h.2.2.2 _ _ (by omega) (by omega) e; omega))
theorem Mat.mid (h : Mat W S g cap b c M m) {i j : Nat} (hi : i < M.length) (hj : j < M.length) (v : Value) : (∃ X, (W.setCell ⟨g, i, none⟩ v).cell? ⟨g, j, none⟩ = some X) ∧ (W.setCell ⟨g, i, none⟩ v).frozen? ⟨g, j, none⟩ = false :=
  ⟨⟨_, (h.1.set (i := i) (by rw [outC_length]; exact hi) v).cell (i := j) (by rw [List.length_set, outC_length]; exact hj)⟩, (h.1.set (i := i) (by rw [outC_length]; exact hi) v).frozen j⟩
theorem Mat.kept {P : Nat → Prop} (h : Mat W S g cap b c M m) (hk : Kept W W' P) (hp : ∀ k, S k → ¬ P k) : Mat W' S g cap b c M m :=
  (h.size.keep fun k hk' => hk.2 k hk'.2 (hp k hk'.1)).mono fun _ hk => hk.1
theorem Mat.own (h : Mat W S g cap b c M m) {i : Nat} (hi : i < M.length) : S (b i) := (h.2.2.1 i hi).2.1
theorem Mat.other (h : Mat W S g cap b c M m) {i j : Nat} (hi : i < M.length) (hj : j < M.length) (hne : i ≠ j) : ∀ W_, Kept W W_ (fun k_ => k_ = b i) → Kd.C (Kd.int .u8) W_ (some ⟨b j, 0, none⟩) (rw_ M j).length (rw_ M j) := fun W_ hk => by
  have h1 := h.R hj (Nat.le_refl _)
  have h2 := Kd.R_step (w1 := W_) h1 (fun k ho hlt => by
    subst ho
    exact hk.2 _ hlt (fun z => hne (h.2.2.2 _ _ hj hi z).symm))
  exact (Kd.R_reads' h2).2.2
theorem Mat.toS (h : Mat W S g cap b c M m) {base : Nat} (hS : ∀ k, S k → base ≤ k) : Kd.S (Kd.slice 5 (Kd.int .u8)) 23 W base (fun _ => True) (.slice (some ⟨g, 0, none⟩) M.length cap) M := by
  obtain ⟨⟨cur, q1, q2, q3, q4, q5⟩, hg, hin, hap⟩ := h
  rw [outC_length] at q2 q5
  refine ⟨fun k => ((List.range M.length).find? (fun j => b j == k)).getD 0, fun k _ => trivial, outC M.length b c m, ⟨by simp [outC, Kd.tag, Kd.slice], .inr ⟨g, cap, cur, by simp, hS g hg, q1, by simpa using q2, q3, by simpa [Kd.tag, Kd.slice] using q4, by simpa [Kd.tag, Kd.slice] using q5⟩⟩, by simp [outC, Kd.tag, Kd.slice], fun j p hj => ?_⟩
  have hjn : j < M.length := by
    have := (List.getElem?_eq_some_iff.1 hj).1
    simpa using this
  have hp : p = (rw_ M j, j) := by
    have := (List.getElem?_eq_some_iff.1 hj).2
    rw [← this]; simp [rw_, hjn]
  subst hp
  have hd : ((outC M.length b c m).drop (j * 1)).take 1 = [Value.slice (some ⟨b j, 0, none⟩) m (c j)] := by
    rw [Nat.mul_one, List.drop_eq_getElem_cons (by rw [outC_length]; exact hjn)]
    simp [outC]
  obtain ⟨h1, h2, h3, h4⟩ := hin j hjn
  have h5 := h4.R (hS _ h2)
  rw [h3] at h5
  show (Kd.tag _ (Kd.slice 5 (Kd.int .u8))).M W base _ _ (((outC M.length b c m).drop (j * 1)).take 1)
  rw [hd]
  refine ⟨_, rfl, Kd.R_mono h5 (fun k hk => ?_)⟩
  subst hk
  exact ⟨⟨trivial, by simp [Value.ownBlock]; exact h1⟩, find_b hjn hap⟩
end
/-- rows of the call's own are a matrix -/
theorem Mat.of_S {W : World} {base : Nat} {ok : Nat → Prop} {v : Value} {M : List (List Int)} {m : Nat} (h : Kd.S (Kd.slice 5 (Kd.int .u8)) 23 W base ok v M) (hM : ∀ r ∈ M, r.length = m) (h0 : 0 < M.length) (hm : 0 < m) : ∃ g cap b c, v = .slice (some ⟨g, 0, none⟩) M.length cap ∧ M.length ≤ cap ∧ Mat W (fun k => base ≤ k) g cap b c M m := by
  obtain ⟨f, hf0, inner, ho, hl, hrep⟩ := h
  have hz : M.zipIdx.length = M.length := by simp
  rw [hz] at ho hl
  rcases ho.2 with ⟨_, h1⟩ | ⟨g, cap, cur, hv, hb, hh, h2, h3, h4, h5⟩
  · omega
  have hin : ∀ i, i < M.length → ∃ bi ci, inner[i]? = some (Value.slice (some ⟨bi, 0, none⟩) m ci) ∧ bi ≠ g ∧ base ≤ bi ∧ f bi = i ∧ RowV W bi 5 ci (encs (Value.int .u8) (rw_ M i)) := by
    intro i hi
    have hrl : (rw_ M i).length = m := hM _ (by simp [rw_, hi])
    have e1 : M.zipIdx[i]? = some (rw_ M i, i) := by
      rw [Kd.zip_at (p := rw_ M i) (by simp [rw_, hi])]
    have e2 : (Kd.tag f (Kd.slice 5 (Kd.int .u8))).M W base (fun k => ok k ∧ some k ≠ v.ownBlock) (rw_ M i, i) ((inner.drop (i * 1)).take 1) := hrep i _ e1
    obtain ⟨u, hu, hR⟩ := e2
    have hil : i < inner.length := by
      have : inner.length = M.length * 1 := hl
      omega
    rw [Nat.mul_one, List.drop_eq_getElem_cons hil] at hu
    simp only [List.take_succ_cons, List.take_zero, List.cons.injEq, and_true] at hu
    obtain ⟨bi, ci, hu2, hb2, hlt, cells, hc⟩ := Kd.R_form hR (by simp only; omega)
    simp only at hu2
    rw [hrl] at hu2
    subst hu2
    have hR1 := hR.1 bi (by simp [Value.ownBlock])
    refine ⟨bi, ci, by rw [List.getElem?_eq_getElem hil, hu], fun z => hR1.1.2 (by rw [hv, z]; simp [Value.ownBlock]), hb2, hR1.2, (RowV.of_R hR).1⟩
  have hch : ∃ b c : Nat → Nat, ∀ i, i < M.length → inner[i]? = some (Value.slice (some ⟨b i, 0, none⟩) m (c i)) ∧ b i ≠ g ∧ base ≤ b i ∧ f (b i) = i ∧ RowV W (b i) 5 (c i) (encs (Value.int .u8) (rw_ M i)) :=
    ⟨fun i => if hi : i < M.length then Classical.choose (hin i hi) else 0, fun i => if hi : i < M.length then Classical.choose (Classical.choose_spec (hin i hi)) else 0, fun i hi => by
      simp only [dif_pos hi]
      exact Classical.choose_spec (Classical.choose_spec (hin i hi))⟩
  obtain ⟨b, c, hbc⟩ := hch
  have hio : inner = outC M.length b c m := by
    apply List.ext_getElem?
    intro i
    by_cases hi : i < M.length
    · rw [(hbc i hi).1]; simp [outC, hi]
    · have : inner.length = M.length * 1 := hl
      rw [List.getElem?_eq_none (by omega), List.getElem?_eq_none (by simp [outC]; omega)]
  refine ⟨g, cap, b, c, hv, h2, ⟨cur, hh, by rw [outC_length]; exact h2, h3, ?_, ?_⟩, hb, fun i hi => ⟨(hbc i hi).2.1, (hbc i hi).2.2.1, hM _ (by simp [rw_, hi]), (hbc i hi).2.2.2.2⟩, fun i j hi hj e => ?_⟩
  · have : cur.size = cap * 1 := h4
    rw [this, Nat.mul_one]
  · rw [outC_length]
    have : cur.toList.take (M.length * 1) = inner := h5
    rw [Nat.mul_one] at this
    rw [this, hio]
  · rw [← (hbc i hi).2.2.2.1, ← (hbc j hj).2.2.2.1, e]
end Go.Proofs.Ythhncoogmncdkaa
