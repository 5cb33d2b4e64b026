/- A bumped vector is unlike the old one in just the cells that were named. -/
import Derived.Test.YtkmcjmhnoccedaaPCx9
import Derived.Test.YtkmcjmhnoccedaaVecO
namespace Go.Proofs.Ytkmcjmhnoccedaa.Pure
open Go Go.RowKit Go.Proofs.Ytkmcjmhnoccedaa Go.Proofs.Ytkmcjmhnoccedaa.PC Go.Proofs.YtkmcjmhnoccedaaW.PrintWords Go.Proofs.YtkmcjmhnoccedaaW.PrintLast
def gset {α : Type} (o : List α) (cells : List Int) (t : α) : List α := cells.foldl (fun o c => o.set c.toNat t) o
theorem gset_len {α : Type} (t : α) : ∀ (cells : List Int) (o : List α), (gset o cells t).length = o.length
  | [], _ => rfl
  | c :: cs, o => by
    show (gset (o.set c.toNat t) cs t).length = _
    rw [gset_len t cs]; simp
theorem gset_getD {α : Type} (t df : α) {i : Nat} : ∀ (cells : List Int) (o : List α), i < o.length → (gset o cells t).getD i df = if cells.any (fun c => c.toNat == i) then t else o.getD i df
  | [], o, _ => rfl
  | c :: cs, o, h => by
    show (gset (o.set c.toNat t) cs t).getD i df = _
    rw [gset_getD t df cs _ (by simpa using h), List.any_cons]
    cases h2 : cs.any (fun c => c.toNat == i) with
    | true => simp
    | false =>
      simp only [Bool.or_false, Bool.false_eq_true, if_false]
      by_cases e : c.toNat = i
      · subst e; simp [h]
      · have : (c.toNat == i) = false := by simpa using e
        rw [this]; simp [e, List.getD_eq_getElem?_getD]
theorem fold_le {M : Int} : ∀ (l : List Int) (a : Int), l.foldl mx a ≤ M ↔ a ≤ M ∧ ∀ x ∈ l, x ≤ M
  | [], a => by simp
  | x :: l, a => by
    rw [List.foldl_cons, fold_le l]
    simp only [mx_eq, List.mem_cons, forall_eq_or_imp]
    constructor
    · rintro ⟨h1, h2⟩
      split at h1 <;> exact ⟨by omega, by omega, h2⟩
    · rintro ⟨h1, h2, h3⟩
      exact ⟨by split <;> omega, h3⟩
theorem mem_le {l : List Int} {a x : Int} (h : x ∈ l) : x ≤ l.foldl mx a := ((fold_le l a).1 (Int.le_refl _)).2 x h
theorem ge_start (l : List Int) (a : Int) : a ≤ l.foldl mx a := ((fold_le l a).1 (Int.le_refl _)).1
theorem bumps_l0 {a b c d : Int} {v w u : List Int} {cells : List Int} (hb : cells.length ≤ 200) (hc : cells.any (out v.length) = false) : ∀ (e k i : Nat) (met : List Bool), i + e = cells.length → e < k → met.length = v.length →
    twoslotlaw07_VectorBumps.l0 k v w cells u met (i : Int) a b c d = twoslotlaw07_VectorBumps.l1 (k - (e + 1)) v w u (gset met (cells.drop i) true) 0 0 a b c d
  | 0, k, i, met, h, hk, hm => by
    obtain ⟨k, rfl⟩ : ∃ m, k = m + 1 := ⟨k - 1, by omega⟩
    simp only [twoslotlaw07_VectorBumps.l0]
    rw [if_neg (by omega), List.drop_of_length_le (by omega)]
    rfl
  | e + 1, k, i, met, h, hk, hm => by
    obtain ⟨k, rfl⟩ : ∃ m, k = m + 1 := ⟨k - 1, by omega⟩
    have hr : 0 ≤ rd cells (i : Int) ∧ rd cells (i : Int) < (v.length : Int) := by
      rw [rd_at (by omega)]
      have := List.any_eq_false.1 hc cells[i] (List.getElem_mem (by omega))
      simp [out] at this
      omega
    simp only [twoslotlaw07_VectorBumps.l0]
    rw [if_pos (by omega), if_pos (by omega), if_pos hr.1, if_pos (by omega), w64s (by omega), bumps_l0 hb hc e k (i + 1) _ (by omega) (by omega) (by simpa using hm), List.drop_eq_getElem_cons (show i < cells.length by omega), rd_at (by omega)]
    rw [show k + 1 - (e + 1 + 1) = k - (e + 1) by omega]
    rfl
theorem bumps_l2 {a b c d : Int} {n : Nat} {w D : List Int} (hw : chk a b c d w = 0) (hwn : w.length = n) (hD : D.length ≤ n) (hd : ∀ x ∈ D, ∃ i : Nat, i < n ∧ x = i) : ∀ (e k j : Nat) (now : List Int), j + e = D.length → e + 30 ≤ k → chk a b c d now = 0 → now.length = n →
    (∀ i, i < n → rd now (i : Nat) ≠ rd w (i : Nat) → ∃ q, j ≤ q ∧ q < D.length ∧ rd D (q : Nat) = (i : Nat)) → twoslotlaw07_VectorBumps.l2 k w D now (j : Int) a b c d = some true
  | 0, k, j, now, h, hk, hn, hl, hi => by
    obtain ⟨k, rfl⟩ : ∃ m, k = m + 1 := ⟨k - 1, by omega⟩
    have hs := short hn
    have e : now = w := ext_rd (by omega) fun i h1 => by
      by_cases e : rd now (i : Nat) = rd w (i : Nat)
      · exact e
      · obtain ⟨q, h2, h3, _⟩ := hi i (by omega) e
        omega
    simp only [twoslotlaw07_VectorBumps.l2]
    rw [if_neg (by omega), same_f (by omega) (by omega), e]
    simp
  | e + 1, k, j, now, h, hk, hn, hl, hi => by
    obtain ⟨k, rfl⟩ : ∃ m, k = m + 1 := ⟨k - 1, by omega⟩
    have hs := short hn
    obtain ⟨p, hp, hx⟩ := hd D[j] (List.getElem_mem (by omega))
    have hrd : rd D (j : Int) = (p : Int) := by rw [rd_at (by omega), hx]
    have hbw : hBad (rd w (p : Int)) = false := bad_rd.1 (chk_zero.1 hw).2.2 p (by omega)
    simp only [twoslotlaw07_VectorBumps.l2]
    rw [if_pos (by omega), if_pos (by omega), hrd, if_pos (by omega), if_pos (by omega), bump_f (by omega), if_pos hn, if_neg (by rw [List.length_singleton]; omega)]
    have ho : [(p : Int)].any (out now.length) = false := by simp [out]; omega
    simp only [Option.bind_some, bumped, ho, hbw, Bool.false_eq_true, if_false, if_true]
    rw [w64s (by omega)]
    show twoslotlaw07_VectorBumps.l2 k w D (now.set ((p : Int)).toNat (rd w (p : Int))) _ a b c d = _
    rw [Int.toNat_natCast]
    refine bumps_l2 hw hwn hD hd e k (j + 1) _ (by omega) (by omega) ?_ (by simpa using hl) ?_
    · obtain ⟨h1, h2, h3⟩ := chk_zero.1 hn
      refine chk_zero.2 ⟨h1, by simpa using h2, bad_rd.2 fun i hi2 => ?_⟩
      rw [rd_set (by simpa using hi2)]
      split
      · exact hbw
      · exact bad_rd.1 h3 i (by simpa using hi2)
    · intro i h1 h2
      rw [rd_set (by omega)] at h2
      by_cases e1 : p = i
      · rw [if_pos e1, e1] at h2; exact absurd rfl h2
      · rw [if_neg e1] at h2
        obtain ⟨q, h3, h4, h5⟩ := hi i h1 h2
        refine ⟨q, ?_, h4, h5⟩
        by_cases e2 : q = j
        · rw [e2, hrd] at h5; omega
        · omega
theorem ul_mem {x y : List Int} {n : Nat} : ∀ z ∈ ul x y n, ∃ i : Nat, i < n ∧ z = i := by
  intro z hz
  unfold ul at hz
  rw [List.mem_map] at hz
  obtain ⟨i, hi, rfl⟩ := hz
  rw [List.mem_filter, List.mem_range] at hi
  exact ⟨i, hi.1, rfl⟩
theorem ul_has {x y : List Int} {n i : Nat} (h : i < n) (hne : rd x (i : Nat) ≠ rd y (i : Nat)) : ∃ q, 0 ≤ q ∧ q < (ul x y n).length ∧ rd (ul x y n) (q : Nat) = (i : Nat) := by
  have : (i : Int) ∈ ul x y n := by
    unfold ul
    rw [List.mem_map]
    exact ⟨i, List.mem_filter.2 ⟨List.mem_range.2 h, by simpa using hne⟩, rfl⟩
  obtain ⟨q, hq, e⟩ := List.getElem_of_mem this
  exact ⟨q, Nat.zero_le _, hq, by rw [rd_at hq]; exact e⟩
theorem bumps_l1 {a b c d : Int} {v w u : List Int} {met : List Bool} {p : Nat → Bool} (hv : v.length ≤ 16) (hm : met.length = v.length) (hp : ∀ i, i < v.length → rdOf false met (i : Nat) = p i)
    (hT : ∀ k, 50 ≤ k → (vector_Unlike.f k a b c d v w).bind (fun bt => if bt.2 = 0 then (twoslotlaw07_VectorBumps.l2 k w bt.1 v 0 a b c d) else (some true)) = some true) :
    ∀ (e k i q : Nat), i + e = v.length → e + 51 ≤ k → q ≤ u.length → u.length ≤ 16 → u.drop q = ((List.range' i e).filter p).map Int.ofNat → twoslotlaw07_VectorBumps.l1 k v w u met (q : Int) (i : Int) a b c d = some true
  | 0, k, i, q, h, hk, hq, hu, hd => by
    obtain ⟨k, rfl⟩ : ∃ m, k = m + 1 := ⟨k - 1, by omega⟩
    have : u.length ≤ q := by simpa using hd
    simp only [twoslotlaw07_VectorBumps.l1]
    rw [if_neg (by omega), if_pos (by omega)]
    exact hT k (by omega)
  | e + 1, k, i, q, h, hk, hq, hu, hd => by
    obtain ⟨k, rfl⟩ : ∃ m, k = m + 1 := ⟨k - 1, by omega⟩
    simp only [twoslotlaw07_VectorBumps.l1]
    rw [if_pos (by omega), if_pos (by omega), if_pos (by omega), hp i (by omega)]
    rw [List.range'_succ, List.filter_cons] at hd
    cases hpi : p i with
    | false =>
      rw [if_neg (by decide), w64s (by omega)]
      rw [hpi, if_neg (by decide)] at hd
      exact bumps_l1 hv hm hp hT e k (i + 1) q (by omega) (by omega) hq hu hd
    | true =>
      rw [hpi, if_pos rfl, List.map_cons] at hd
      have hlt : q < u.length := by
        rcases Nat.lt_or_ge q u.length with h1 | h1
        · exact h1
        · rw [List.drop_of_length_le h1] at hd; cases hd
      rw [List.drop_eq_getElem_cons hlt] at hd
      injection hd with h1 h2
      rw [if_pos rfl, if_neg (by omega), if_pos (by omega), if_pos (by omega), rd_at hlt, h1, if_pos (show Int.ofNat i = (i : Int) from rfl), w64s (by omega), w64s (by omega)]
      exact bumps_l1 hv hm hp hT e k (i + 1) (q + 1) (by omega) (by omega) (by omega) hu h2
theorem VectorBumps : twoslotlaw07_VectorBumps.Pure := by
  intro a b c d v w cells _ _ _ _ _ _ _
  obtain ⟨m, hm⟩ : ∃ k, 500 ≤ k := ⟨500, Nat.le_refl _⟩
  refine ⟨m + 1 + 1 + 1, ?_⟩
  unfold twoslotlaw07_VectorBumps.f
  rw [alive_f (by omega)]
  simp only [Option.bind_some, if_true]
  have h0 : twoslotlaw07_VectorBumps.j0 (m + 1 + 1 + 1) v w cells true a b c d = some true := by simp only [twoslotlaw07_VectorBumps.j0, if_true]
  by_cases c1 : (v.length : Int) > 200
  · rw [if_pos c1, h0]
  by_cases c2 : (w.length : Int) > 200
  · rw [if_neg c1, if_pos c2, h0]
  by_cases c3 : (cells.length : Int) > 200
  · rw [if_neg c1, if_neg c2, decide_eq_true c3, h0]
  rw [if_neg c1, if_neg c2, decide_eq_false c3]
  have h1 : ∀ q, twoslotlaw07_VectorBumps.j1 (m + 1 + 1) v w cells q true a b c d = some true := fun q => by simp only [twoslotlaw07_VectorBumps.j1, if_true]
  simp only [twoslotlaw07_VectorBumps.j0, Bool.false_eq_true, if_false]
  rw [last_f (by omega)]
  simp only [Option.bind_some]
  by_cases hv : chk a b c d v = 0
  case neg => rw [if_neg hv, if_neg hv, h1]
  rw [if_pos hv]
  simp only [if_true]
  obtain ⟨hok, hlen, hgood⟩ := chk_zero.1 hv
  have hs := short hv
  have hn0 : 0 ≤ v.foldl mx 0 := ge_start v 0
  have hle : ∀ i, i < v.length → rd v (i : Nat) ≤ v.foldl mx 0 := fun i hi => by rw [rd_at hi]; exact mem_le (List.getElem_mem hi)
  generalize hn : v.foldl mx 0 = n at *
  by_cases hmax : n = 1073741824
  · rw [beq_iff_eq.2 hmax, h1]
  rw [beq_eq_false_iff_ne.2 hmax]
  have hnM : n ≤ 1073741824 := by
    rw [← hn]
    refine (fold_le v 0).2 ⟨by omega, fun x hx => ?_⟩
    have := List.any_eq_false.1 hgood x hx
    rw [Bool.not_eq_true, hBad_iff] at this
    exact this.2
  have hw64 : wrap64 (n + 1) = n + 1 := by unfold wrap64; omega
  simp only [twoslotlaw07_VectorBumps.j1, Bool.false_eq_true, if_false]
  rw [hw64, bump_f (by omega), if_pos hv]
  by_cases hc : cells.length > v.length
  · rw [if_pos hc]; rfl
  rw [if_neg hc]
  have hbad : hBad (n + 1) = false := (hBad_iff _).2 (by omega)
  unfold bumped
  cases ho : cells.any (out v.length) with
  | true => rfl
  | false =>
  rw [hbad]
  simp only [Bool.false_eq_true, if_false, Option.bind_some, if_true]
  have hb : bset v cells (n + 1) = gset v cells (n + 1) := rfl
  have hbl : (bset v cells (n + 1)).length = v.length := gset_len _ _ _
  have hbr : ∀ i, i < v.length → rd (bset v cells (n + 1)) (i : Nat) = if cells.any (fun c => c.toNat == i) then n + 1 else rd v (i : Nat) := fun i hi => by
    have := gset_getD (n + 1) 0 cells v hi
    unfold rd
    rw [Int.toNat_natCast]; exact this
  have hbc : chk a b c d (bset v cells (n + 1)) = 0 := chk_zero.2 ⟨hok, by rw [hbl]; exact hlen, bad_rd.2 fun i hi => by
    rw [hbr i (by omega)]
    split
    · exact hbad
    · exact bad_rd.1 hgood i (by omega)⟩
  have h2 := chk2_zero.2 ⟨hv, hbc⟩
  rw [unlike_f (by omega), if_pos h2, last_f (by omega), if_pos hbc, below_f (by omega), if_pos h2]
  simp only [Option.bind_some, if_true]
  have hbel : bl v (bset v cells (n + 1)) v.length = true := bl_iff.2 fun i hi => by
    rw [hbr i hi]
    have := hle i hi
    split <;> omega
  rw [hbel, if_pos rfl]
  have hp : ∀ i, i < v.length → decide (rd v (i : Nat) ≠ rd (bset v cells (n + 1)) (i : Nat)) = cells.any (fun c => c.toNat == i) := fun i hi => by
    rw [hbr i hi]
    have := hle i hi
    cases cells.any (fun c => c.toNat == i) with
    | true => rw [if_pos rfl]; simp; omega
    | false => rw [if_neg (by decide)]; simp
  have hj2 : twoslotlaw07_VectorBumps.j2 (m + 1) v w cells (ul v (bset v cells (n + 1)) v.length) false a b c d = some true := by
    simp only [twoslotlaw07_VectorBumps.j2, Bool.false_eq_true, if_false]
    rw [if_pos (by omega), if_pos (by omega), Int.toNat_natCast, show (0 : Int) = ((0 : Nat) : Int) from rfl, bumps_l0 (by omega) ho cells.length m 0 _ (by omega) (by omega) (by simp), List.drop_zero]
    refine bumps_l1 (p := fun i => decide (rd v (i : Nat) ≠ rd (bset v cells (n + 1)) (i : Nat))) hs (by rw [gset_len]; simp) ?_ ?_ v.length _ 0 0 (by omega) (by omega) (by omega) (Nat.le_trans (ul_len _ _ _) hs) ?_
    · intro i hi
      rw [hp i hi]
      have := gset_getD true false cells (List.replicate v.length false) (i := i) (by simpa using hi)
      unfold rdOf
      rw [Int.toNat_natCast, this]
      cases cells.any (fun c => c.toNat == i) <;> simp [List.getElem?_replicate, hi]
    · intro k hk
      rw [unlike_f (by omega)]
      by_cases hvw : chk2 a b c d v w = 0
      · rw [if_pos hvw]
        simp only [Option.bind_some, if_true]
        have hw := (chk2_zero.1 hvw).2
        have hl := same_len hvw
        have hu := ul_len v w v.length
        exact bumps_l2 (n := v.length) hw (by omega) hu ul_mem (ul v w v.length).length k 0 v (by omega) (by omega) hv rfl fun i hi hne => ul_has hi hne
      · rw [if_neg hvw]
        simp only [Option.bind_some]
        rw [if_neg hvw]
    · rw [List.drop_zero, ← List.range_eq_range']
      rfl
  by_cases hce : cells = []
  · have hbv : bset v cells (n + 1) = v := by rw [hce]; rfl
    rw [hbv] at hj2 ⊢
    rw [hn, if_neg (by rw [hce]; decide), if_pos (by rw [hce]; rfl), bne_self_eq_false, hj2]
  · have hpos : 0 < cells.length := List.length_pos_iff.2 hce
    have hlast : (bset v cells (n + 1)).foldl mx 0 = n + 1 := by
      refine Int.le_antisymm ((fold_le _ _).2 ⟨by omega, fun x hx => ?_⟩) ?_
      · obtain ⟨i, hi, rfl⟩ := List.getElem_of_mem hx
        rw [← rd_at hi, hbr i (by omega)]
        have := hle i (by omega)
        split <;> omega
      · have hc0 : out v.length cells[0] = false := by simpa using List.any_eq_false.1 ho cells[0] (List.getElem_mem hpos)
        have hc1 : 0 ≤ cells[0] ∧ cells[0] < (v.length : Int) := by simp [out] at hc0; omega
        have hx : rd (bset v cells (n + 1)) (cells[0].toNat : Nat) = n + 1 := by
          rw [hbr _ (by omega), if_pos]
          exact List.any_eq_true.2 ⟨cells[0], List.getElem_mem hpos, by simp⟩
        rw [rd_at (by omega)] at hx
        have := mem_le (l := bset v cells (n + 1)) (a := 0) (List.getElem_mem (show cells[0].toNat < (bset v cells (n + 1)).length by omega))
        omega
    rw [hlast, if_pos (by omega), if_pos rfl, if_neg (by omega), hj2]
end Go.Proofs.Ytkmcjmhnoccedaa.Pure
