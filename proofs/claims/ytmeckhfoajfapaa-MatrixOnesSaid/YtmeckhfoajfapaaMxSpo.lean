/- A matrix that is handed over and spoilt: what is its own, and what stays. No condition. -/
import Derived.Test.YtmeckhfoajfapaaMxMat
import Derived.Test.YtmeckhfoajfapaaCopy
namespace Go.Proofs.Ytmeckhfoajfapaa
open Go Go.RowKit Go.Proofs.YtmeckhfoajfapaaW.PrintWords Go.Proofs.YtmeckhfoajfapaaW.PrintLast Go.Proofs.YtmeckhfoajfapaaW.PrintMore
set_option linter.unusedVariables false
/-- rows of the call's own are a matrix -/
theorem Mat.of_SQ {W : World} {base : Nat} {ok : Nat → Prop} {v : Value} {M : List (List Int)} {m : Nat} (h : Kd.S (Kd.slice 5 (Kd.int .u8)) 34 W base ok v M) (hM : ∀ r ∈ M, r.length = m) (h0 : 0 < M.length) (hm : 0 < m) : ∃ g cap b c, v = .slice (some ⟨g, 0, none⟩) M.length cap ∧ M.length ≤ cap ∧ Mat W (fun k => base ≤ k ∧ ok k) g cap b c M m := by
  obtain ⟨f, hf0, inner, ho, hl, hrep⟩ := h
  have hz : M.zipIdx.length = M.length := by simp
  rw [hz] at ho hl
  rcases ho.2 with ⟨_, h1⟩ | ⟨g, cap, cur, hv, hb, hh, h2, h3, h4, h5⟩
  · omega
  have hin : ∀ i, i < M.length → ∃ bi ci, inner[i]? = some (Value.slice (some ⟨bi, 0, none⟩) m ci) ∧ bi ≠ g ∧ (base ≤ bi ∧ ok bi) ∧ f bi = i ∧ RowV W bi 5 ci (encs (Value.int .u8) (rw_ M i)) := by
    intro i hi
    have hrl : (rw_ M i).length = m := hM _ (by simp [rw_, hi])
    have e1 : M.zipIdx[i]? = some (rw_ M i, i) := by
      rw [Kd.zip_at (p := rw_ M i) (by simp [rw_, hi])]
    have e2 : (Kd.tag f (Kd.slice 5 (Kd.int .u8))).M W base (fun k => ok k ∧ some k ≠ v.ownBlock) (rw_ M i, i) ((inner.drop (i * 1)).take 1) := hrep i _ e1
    obtain ⟨u, hu, hR⟩ := e2
    have hil : i < inner.length := by
      have : inner.length = M.length * 1 := hl
      omega
    rw [Nat.mul_one, List.drop_eq_getElem_cons hil] at hu
    simp only [List.take_succ_cons, List.take_zero, List.cons.injEq, and_true] at hu
    obtain ⟨bi, ci, hu2, hb2, hlt, cells, hc⟩ := Kd.R_form hR (by simp only; omega)
    simp only at hu2
    rw [hrl] at hu2
    subst hu2
    have hR1 := hR.1 bi (by simp [Value.ownBlock])
    refine ⟨bi, ci, by rw [List.getElem?_eq_getElem hil, hu], fun z => hR1.1.2 (by rw [hv, z]; simp [Value.ownBlock]), ⟨hb2, hR1.1.1⟩, hR1.2, (RowV.of_R hR).1⟩
  have hch : ∃ b c : Nat → Nat, ∀ i, i < M.length → inner[i]? = some (Value.slice (some ⟨b i, 0, none⟩) m (c i)) ∧ b i ≠ g ∧ (base ≤ b i ∧ ok (b i)) ∧ f (b i) = i ∧ RowV W (b i) 5 (c i) (encs (Value.int .u8) (rw_ M i)) :=
    ⟨fun i => if hi : i < M.length then Classical.choose (hin i hi) else 0, fun i => if hi : i < M.length then Classical.choose (Classical.choose_spec (hin i hi)) else 0, fun i hi => by
      simp only [dif_pos hi]
      exact Classical.choose_spec (Classical.choose_spec (hin i hi))⟩
  obtain ⟨b, c, hbc⟩ := hch
  have hio : inner = outC M.length b c m := by
    apply List.ext_getElem?
    intro i
    by_cases hi : i < M.length
    · rw [(hbc i hi).1]; simp [outC, hi]
    · have : inner.length = M.length * 1 := hl
      rw [List.getElem?_eq_none (by omega), List.getElem?_eq_none (by simp [outC]; omega)]
  refine ⟨g, cap, b, c, hv, h2, ⟨cur, hh, by rw [outC_length]; exact h2, h3, ?_, ?_⟩, ⟨hb, hf0 g (by rw [hv]; simp [Value.ownBlock])⟩, fun i hi => ⟨(hbc i hi).2.1, (hbc i hi).2.2.1, hM _ (by simp [rw_, hi]), (hbc i hi).2.2.2.2⟩, fun i j hi hj e => ?_⟩
  · have : cur.size = cap * 1 := h4
    rw [this, Nat.mul_one]
  · rw [outC_length]
    have : cur.toList.take (M.length * 1) = inner := h5
    rw [Nat.mul_one] at this
    rw [this, hio]
  · rw [← (hbc i hi).2.2.2.1, ← (hbc j hj).2.2.2.1, e]
theorem lit8 {W : World} {g : Nat} {xs : List Int} {e : TypeId} {cs : Array Value} (h : W.heap[g]? = some (.cells cs e (0, 0))) (hcs : cs = (encs (Value.int .u8) xs).toArray) (hl : xs.length ≤ 1000) : Kd.C (Kd.int .u8) W (some ⟨g, 0, none⟩) xs.length xs := by
  subst hcs
  have hown := own_of_block (base := 0) h (Nat.zero_le _) (by simp [encs, maxLen]; omega)
  have hlen : (encs (Value.int .u8) xs).length = xs.length := by simp [encs]
  rw [hlen] at hown
  exact (Kd.R_reads' (Kd.R_of_own (h1 := fun _ => rfl) (ok := fun _ => True) hown (fun _ _ => trivial))).2.2
/-- rows from i on are as they may be; nothing but Q's blocks has changed -/
def Sp (w wx : World) (Q : Nat → Prop) (g cap n m i : Nat) (b c : Nat → Nat) : Prop :=
  RowV wx g 34 cap (outC n b c m) ∧ Q g ∧ (∀ q, q < n → b q ≠ g ∧ Q (b q)) ∧ (∀ p q, p < n → q < n → b p = b q → p = q) ∧ (∀ q, i ≤ q → q < n → ∃ r : List Int, r.length = m ∧ RowV wx (b q) 5 (c q) (encs (Value.int .u8) r)) ∧ Kept w wx Q
theorem Sp.start {W : World} {Q : Nat → Prop} {g cap m : Nat} {b c : Nat → Nat} {M : List (List Int)} (h : Mat W Q g cap b c M m) : Sp W W Q g cap M.length m 0 b c :=
  ⟨h.1, h.2.1, fun q hq => ⟨(h.2.2.1 q hq).1, (h.2.2.1 q hq).2.1⟩, h.2.2.2, fun q _ hq => ⟨_, (h.2.2.1 q hq).2.2.1, (h.2.2.1 q hq).2.2.2⟩, Kept.refl W Q⟩
theorem Sp.out {w wx : World} {Q : Nat → Prop} {g cap n m i : Nat} {b c : Nat → Nat} (h : Sp w wx Q g cap n m i b c) {q : Nat} (hq : q < n) : wx.cell? ⟨g, q, none⟩ = some (.slice (some ⟨b q, 0, none⟩) m (c q)) := by
  have := h.1.cell (i := q) (by rw [outC_length]; exact hq)
  rw [this]
  simp [outC]
theorem Sp.below {w wx wy : World} {Q : Nat → Prop} {g cap n m i : Nat} {b c : Nat → Nat} (h : Sp w wx Q g cap n m i b c) (hb : Below wx.heap.size wx wy) : Sp w wy Q g cap n m i b c :=
  ⟨h.1.keep (hb.block _ h.1.lt), h.2.1, h.2.2.1, h.2.2.2.1, fun q h1 h2 => by
    obtain ⟨r, hr1, hr2⟩ := h.2.2.2.2.1 q h1 h2
    exact ⟨r, hr1, hr2.keep (hb.block _ hr2.lt)⟩, ⟨Nat.le_trans h.2.2.2.2.2.1 hb.size, fun k hk hq => (hb.block k (Nat.lt_of_lt_of_le hk h.2.2.2.2.2.1)).trans (h.2.2.2.2.2.2 k hk hq)⟩⟩
/-- the row i is written somewhere, or a new block -/
theorem Sp.step {w wx wy : World} {Q : Nat → Prop} {g cap n m i : Nat} {b c : Nat → Nat} (h : Sp w wx Q g cap n m i b c) (hi : i < n) (hs : wx.heap.size ≤ wy.heap.size) (hk : ∀ k, k < wx.heap.size → k ≠ b i → wy.heap[k]? = wx.heap[k]?) : Sp w wy Q g cap n m (i + 1) b c :=
  ⟨h.1.keep (hk g h.1.lt (fun z => (h.2.2.1 i hi).1 z.symm)), h.2.1, h.2.2.1, h.2.2.2.1, fun q h1 h2 => by
    obtain ⟨r, hr1, hr2⟩ := h.2.2.2.2.1 q (by omega) h2
    exact ⟨r, hr1, hr2.keep (hk _ hr2.lt (fun z => by have := h.2.2.2.1 q i h2 hi z; omega))⟩, ⟨Nat.le_trans h.2.2.2.2.2.1 hs, fun k hk' hq => (hk k (Nat.lt_of_lt_of_le hk' h.2.2.2.2.2.1) (fun z => hq (z ▸ (h.2.2.1 i hi).2))).trans (h.2.2.2.2.2.2 k hk' hq)⟩⟩
theorem Sp.store {w wx : World} {Q : Nat → Prop} {g cap n m i : Nat} {b c : Nat → Nat} (h : Sp w wx Q g cap n m i b c) (hi : i < n) {j : Nat} (hj : j < m) (v : Int) : Sp w (wx.setCell ⟨b i, j, none⟩ (.int .u8 v)) Q g cap n m i b c :=
  ⟨h.1.far (p := ⟨b i, j, none⟩) (fun z => (h.2.2.1 i hi).1 z.symm) _, h.2.1, h.2.2.1, h.2.2.2.1, fun q h1 h2 => by
    obtain ⟨r, hr1, hr2⟩ := h.2.2.2.2.1 q h1 h2
    by_cases e : q = i
    · subst e
      refine ⟨r.set j v, by simpa using hr1, ?_⟩
      have := hr2.set (i := j) (by simp [encs]; omega) (.int .u8 v)
      have e : (encs (Value.int .u8) r).set j (.int .u8 v) = encs (Value.int .u8) (r.set j v) := by simp [encs]
      rwa [e] at this
    · exact ⟨r, hr1, hr2.far (p := ⟨b i, j, none⟩) (fun z => e (h.2.2.2.1 q i h2 hi z)) _⟩, ⟨by have := h.2.2.2.2.2.1; simpa using this, fun k hk' hq => (Below.heap_setCell _ ⟨b i, j, none⟩ _ k (fun z => hq (z ▸ (h.2.2.1 i hi).2))).trans (h.2.2.2.2.2.2 k hk' hq)⟩⟩
end Go.Proofs.Ytmeckhfoajfapaa
