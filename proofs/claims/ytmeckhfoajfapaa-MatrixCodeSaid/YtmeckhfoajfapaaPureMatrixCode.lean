/- MatrixCode, in plain Lean: any k rows of the unit matrix and the parity rows can be undone, for every input. No condition. -/
import Derived.Test.YtmeckhfoajfapaaPAx17
import Derived.Test.YtmeckhfoajfapaaMxFun
namespace Go.Proofs.Ytmeckhfoajfapaa.Pure
open Go Go.RowKit Go.TwoGf Go.TwoLin Go.Proofs.Ytmeckhfoajfapaa Go.Proofs.Ytmeckhfoajfapaa.PA Go.Proofs.YtmeckhfoajfapaaW.PrintWords Go.Proofs.YtmeckhfoajfapaaW.PrintLast
set_option linter.unusedVariables false
theorem sm_filter (p : Nat → Bool) (f : Nat → F) : ∀ l : List Nat, sm l f = sm (l.filter p) f + sm (l.filter fun x => !p x) f
  | [] => (add_zero 0).symm
  | x :: l => by
    rw [sm_cons, sm_filter p f l, List.filter_cons, List.filter_cons]
    cases p x with
    | true => simp only [if_true, Bool.not_true, Bool.false_eq_true, if_false, sm_cons]; rw [add_assoc]
    | false => simp only [if_true, Bool.not_false, Bool.false_eq_true, if_false, sm_cons]; ac_rfl
theorem len_filter (p : Nat → Bool) : ∀ l : List Nat, (l.filter p).length + (l.filter fun x => !p x).length = l.length
  | [] => rfl
  | x :: l => by
    have := len_filter p l
    rw [List.filter_cons, List.filter_cons]
    cases p x with
    | true => simp; omega
    | false => simp; omega
theorem toF_nat_inj {a b : Nat} (ha : a < 256) (hb : b < 256) (h : toF (a : Int) = toF (b : Int)) : a = b := by
  have := congrArg F.v h
  rwa [v_nat ha, v_nat hb] at this
/-- the unit matrix, and the parity's rows behind it -/
def allM (k r : Nat) : List (List Int) := mkF k k dl ++ mkF r k (cau k)
theorem allM_rect (k r : Nat) : rect (k + r) k (allM k r) := ⟨by unfold allM; rw [List.length_append, (rect_mkF _ _ _).1, (rect_mkF _ _ _).1], fun x hx => by
  rcases List.mem_append.1 hx with h | h
  · exact (rect_mkF _ _ _).2 x h
  · exact (rect_mkF _ _ _).2 x h⟩
theorem allM_isM (k r : Nat) : isM (allM k r) := fun x hx => by
  rcases List.mem_append.1 hx with h | h
  · exact isM_mkF _ _ _ x h
  · exact isM_mkF _ _ _ x h
theorem allM_low {k r i j : Nat} (hi : i < k) (hj : j < k) : cell (allM k r) i j = dl i j := by
  have e : rw_ (allM k r) i = rw_ (mkF k k dl) i := by
    unfold rw_ allM
    rw [List.getD_eq_getElem?_getD, List.getElem?_append_left (by rw [(rect_mkF _ _ _).1]; exact hi), ← List.getD_eq_getElem?_getD]
  have : cell (allM k r) i j = cell (mkF k k dl) i j := by unfold cell; rw [e]
  rw [this, cell_mkF hi hj]
theorem allM_high {k r p j : Nat} (hp : p < r) (hj : j < k) : cell (allM k r) (k + p) j = cau k p j := by
  have e : rw_ (allM k r) (k + p) = rw_ (mkF r k (cau k)) p := by
    unfold rw_ allM
    rw [List.getD_eq_getElem?_getD, List.getElem?_append_right (by rw [(rect_mkF _ _ _).1]; omega), (rect_mkF _ _ _).1, Nat.add_sub_cancel_left, ← List.getD_eq_getElem?_getD]
  have : cell (allM k r) (k + p) j = cell (mkF r k (cau k)) p j := by unfold cell; rw [e]
  rw [this, cell_mkF hp hj]
theorem code_final {K k r : Nat} (hK : 1100 ≤ K) (h1 : 1 ≤ k) (h2 : k ≤ 12) (h3 : 1 ≤ r) (h4 : r ≤ 4) {rows : List Int} (hl : rows.length = k) (hn : rows.Nodup) (hr : ∀ x ∈ rows, 0 ≤ x ∧ x < (k + r : Nat)) :
    ((matrix_Pick.f K (allM k r) rows).bind fun bt256 => (if bt256.2 = 0 then ((matrix_Inverse.f K bt256.1).bind fun bt260 => (some (bt260.2 == 0))) else (none))) = some true := by
  obtain ⟨ga, la, wa⟩ := good_of (allM_rect k r) (by omega) (by omega) h1 (by omega)
  rw [pick_f (by omega) (allM_isM k r) ga (by omega) (by omega) (by rw [la]; exact hr), Option.bind_some]
  dsimp only
  rw [if_pos rfl, wa, hl]
  obtain ⟨m, hm⟩ : ∃ m, m = mkF k k (fun i j => cell (allM k r) (rd rows (i : Int)).toNat j) := ⟨_, rfl⟩
  have rm : rect k k m := by rw [hm]; exact rect_mkF _ _ _
  have bm : isM m := by rw [hm]; exact isM_mkF _ _ _
  have cm : ∀ i j, i < k → j < k → cell m i j = cell (allM k r) (rd rows (i : Int)).toNat j := fun i j hi hj => by rw [hm, cell_mkF hi hj]
  rw [← hm]
  clear hm
  obtain ⟨gm, lm, wm⟩ := good_of rm h1 (by omega) h1 (by omega)
  rcases inverse_f (k := K) (by omega) bm gm (by rw [lm, wm]) with ⟨r', q1, q2, q3⟩ | ⟨V, q1, _⟩
  case inr => rw [q1]; rfl
  exfalso
  rw [lm] at q1 q2
  have hfull : r' = k := Rk_full q2 fun c hc => by
    -- each row that was taken
    have hrow : ∀ e : Nat, (e : Int) ∈ rows → sn k (fun j => cell (allM k r) e j * c j) = 0 := fun e he => by
      obtain ⟨i, hi, hie⟩ := List.getElem_of_mem he
      rw [← hc i (by omega)]
      refine sn_congr fun j hj => ?_
      rw [cm i j (by omega) hj]
      have : (rd rows (i : Int)).toNat = e := by rw [rd_lt hi, hie, Int.toNat_natCast]
      rw [this]
    have hlow : ∀ e, e < k → (e : Int) ∈ rows → c e = 0 := fun e he hm => by
      have := hrow e hm
      rw [sn_one he (fun j hj hne => by rw [allM_low he hj, dl_ne (fun z => hne z.symm), zero_mul]), allM_low he he, dl_same, one_mul] at this
      exact this
    have hpar : ∀ p, p < r → ((k + p : Nat) : Int) ∈ rows → sn k (fun j => c j * inv (toF ((k + p : Nat) : Int) + toF (j : Int))) = 0 := fun p hp hm => by
      rw [← hrow (k + p) hm]
      exact sn_congr fun j hj => by rw [allM_high hp hj, mul_comm]; rfl
    let P : Nat → Bool := fun j => decide ((j : Int) ∈ rows)
    let L := (List.range k).filter fun j => !P j
    let R := (List.range r).filter fun p => decide (((k + p : Nat) : Int) ∈ rows)
    have hLm : ∀ j, j ∈ L ↔ j < k ∧ ¬ (j : Int) ∈ rows := fun j => by simp [L, P]
    have hRm : ∀ p, p ∈ R ↔ p < r ∧ ((k + p : Nat) : Int) ∈ rows := fun p => by simp [R]
    have hlen : L.length ≤ R.length := by
      have e1 := len_filter P (List.range k)
      rw [List.length_range] at e1
      have e2 : rows.length ≤ (((List.range k).filter P).map (fun j : Nat => (j : Int)) ++ R.map (fun p => ((k + p : Nat) : Int))).length := by
        refine List.Nodup.length_le_of_subset hn fun x hx => ?_
        obtain ⟨hx0, hx1⟩ := hr x hx
        obtain ⟨e, rfl⟩ := Int.eq_ofNat_of_zero_le hx0
        by_cases he : e < k
        · refine List.mem_append.2 (.inl (List.mem_map.2 ⟨e, ?_, rfl⟩))
          simp [P, he, hx]
        · refine List.mem_append.2 (.inr (List.mem_map.2 ⟨e - k, (hRm _).2 ⟨by omega, ?_⟩, ?_⟩))
          · rw [show k + (e - k) = e by omega]; exact hx
          · rw [show k + (e - k) = e by omega]
      rw [List.length_append, List.length_map, List.length_map, hl] at e2
      show ((List.range k).filter fun j => !P j).length ≤ R.length
      omega
    have hz := cauchy (fun p => toF ((k + p : Nat) : Int)) (fun j => toF (j : Int)) L R c ((nd_rg k).filter _) ((nd_rg r).filter _) hlen
      (fun i hi q hq hne z => hne (by have := toF_nat_inj (by have := ((hRm i).1 hi).1; omega) (by have := ((hRm q).1 hq).1; omega) z; omega))
      (fun i hi q hq hne z => hne (toF_nat_inj (by have := ((hLm i).1 hi).1; omega) (by have := ((hLm q).1 hq).1; omega) z))
      (fun p hp j hj z => by have := toF_nat_inj (by have := ((hRm p).1 hp).1; omega) (by have := ((hLm j).1 hj).1; omega) (add_eq_zero z); have := ((hLm j).1 hj).1; omega)
      (fun p hp => by
        obtain ⟨hp1, hp2⟩ := (hRm p).1 hp
        have := hpar p hp1 hp2
        unfold sn at this
        rw [sm_filter P, sm_zero (l := (List.range k).filter P), zero_add] at this
        · exact this
        · intro j hj
          have hj1 : j < k ∧ (j : Int) ∈ rows := by simpa [P] using hj
          rw [hlow j hj1.1 hj1.2, zero_mul])
    intro j hj
    by_cases hm : (j : Int) ∈ rows
    · exact hlow j hj hm
    · exact hz j ((hLm j).2 ⟨hj, hm⟩)
  omega
theorem rdOf_set {met : List Bool} {e j : Nat} (he : e < met.length) : rdOf false (met.set e true) (j : Int) = if j = e then true else rdOf false met (j : Int) := by
  unfold rdOf
  rw [Int.toNat_natCast, List.getD_eq_getElem?_getD, List.getD_eq_getElem?_getD, List.getElem?_set]
  by_cases h : e = j
  · subst h; simp [he]
  · rw [if_neg h, if_neg (fun z => h z.symm)]
/-- what the loops keep -/
structure St2 (k n i : Nat) (rows : List Int) (met : List Bool) : Prop where
  ml : met.length = n
  nd : rows.Nodup
  le : rows.length ≤ k
  rg : ∀ x ∈ rows, 0 ≤ x ∧ x < (n : Int)
  iff : ∀ j, i ≤ j → j < n → (rdOf false met (j : Int) = true ↔ (j : Int) ∈ rows)
  low : ∀ j, j < i → (j : Int) ∈ rows ∨ rows.length = k
section
variable {k r : Nat} (h1 : 1 ≤ k) (h2 : k ≤ 12) (h3 : 1 ≤ r) (h4 : r ≤ 4)
include h1 h2 h3 h4
theorem wkr : wrap64 ((k : Int) + (r : Int)) = ((k + r : Nat) : Int) := by unfold wrap64; omega
theorem code_l1 : ∀ (d K i : Nat) (rows : List Int) (met : List Bool), i + d = k + r → 2 * d + 1200 ≤ K → St2 k (k + r) i rows met →
    twoslotlaw03_MatrixCode.l1 K (k : Int) (r : Int) (allM k r) rows met (i : Int) = some true := by
  have hfin : ∀ K i (rows : List Int) (met : List Bool), 1150 ≤ K → St2 k (k + r) i rows met → (rows.length = k ∨ i = k + r) → twoslotlaw03_MatrixCode.j4 K (k : Int) (r : Int) (allM k r) rows met (i : Int) false = some true := fun K i rows met hK hS hor => by
    obtain ⟨K, rfl⟩ : ∃ q, K = q + 1 := ⟨K - 1, by omega⟩
    have hl : rows.length = k := by
      rcases hor with h | h
      · exact h
      · subst h
        apply Classical.byContradiction
        intro hne
        have := List.Nodup.length_le_of_subset (l₁ := (List.range (k + r)).map (fun j : Nat => (j : Int))) (l₂ := rows) ((nd_rg (k + r)).map (fun j : Nat => (j : Int)) (fun a b hab hz => hab (by omega))) (fun x hx => by
          obtain ⟨j, hj, rfl⟩ := List.mem_map.1 hx
          rcases hS.low j (List.mem_range.1 hj) with h | h
          · exact h
          · exact absurd h hne)
        rw [List.length_map, List.length_range] at this
        have := hS.le
        omega
    rw [twoslotlaw03_MatrixCode.j4, if_neg (by decide)]
    exact code_final (by omega) h1 h2 h3 h4 hl hS.nd hS.rg
  intro d
  induction d with
  | zero =>
    intro K i rows met hi hK hS
    obtain ⟨K, rfl⟩ : ∃ q, K = q + 1 := ⟨K - 1, by omega⟩
    rw [twoslotlaw03_MatrixCode.l1, wkr h1 h2 h3 h4, if_neg (by omega)]
    exact hfin K i rows met (by omega) hS (.inr (by omega))
  | succ d ih =>
    intro K i rows met hi hK hS
    obtain ⟨K, rfl⟩ : ∃ q, K = q + 1 := ⟨K - 1, by omega⟩
    rw [twoslotlaw03_MatrixCode.l1, wkr h1 h2 h3 h4, if_pos (by omega)]
    by_cases hlt : rows.length < k
    case neg =>
      rw [show decide ((rows.length : Int) < (k : Int)) = false from decide_eq_false (by omega)]
      exact hfin K i rows met (by omega) hS (.inl (by have := hS.le; omega))
    rw [show decide ((rows.length : Int) < (k : Int)) = true from decide_eq_true (by omega)]
    obtain ⟨K, rfl⟩ : ∃ q, K = q + 1 := ⟨K - 1, by omega⟩
    rw [twoslotlaw03_MatrixCode.j4, if_pos rfl, if_pos (by omega), hS.ml, if_pos (by omega), w64 (by omega)]
    have hiff := hS.iff i (Nat.le_refl _) (by omega)
    by_cases hm : rdOf false met (i : Int) = true
    · rw [if_pos hm]
      exact ih K (i + 1) rows met (by omega) (by omega) ⟨hS.ml, hS.nd, hS.le, hS.rg, fun j h5 h6 => hS.iff j (by omega) h6, fun j h5 => by
        by_cases e : j = i
        · rw [e]; exact .inl (hiff.1 hm)
        · exact hS.low j (by omega)⟩
    · rw [if_neg hm, if_pos (by omega)]
      have hni : ¬ (i : Int) ∈ rows := fun z => hm (hiff.2 z)
      refine ih K (i + 1) (rows ++ [(i : Int)]) met (by omega) (by omega) ⟨hS.ml, ?_, by rw [List.length_append]; simp; omega, fun x hx => ?_, fun j h5 h6 => ?_, fun j h5 => ?_⟩
      · rw [List.nodup_append]
        exact ⟨hS.nd, by simp, fun a ha b hb z => hni (by rw [List.mem_singleton] at hb; rw [← hb, ← z]; exact ha)⟩
      · rcases List.mem_append.1 hx with h | h
        · exact hS.rg x h
        · rw [List.mem_singleton] at h; omega
      · rw [hS.iff j (by omega) h6, List.mem_append, List.mem_singleton]
        constructor
        · exact fun z => .inl z
        · rintro (z | z)
          · exact z
          · omega
      · by_cases e : j = i
        · rw [e]; exact .inl (by simp)
        · rcases hS.low j (by omega) with h | h
          · exact .inl (List.mem_append.2 (.inl h))
          · omega
theorem code_l0 (l : List Int) (hl : l.length ≤ 9223372036854775807) : ∀ (d K i : Nat) (rows : List Int) (met : List Bool), i + d = l.length → 2 * d + 2 * (k + r) + 1300 ≤ K → St2 k (k + r) 0 rows met →
    twoslotlaw03_MatrixCode.l0 K (k : Int) (r : Int) l (allM k r) rows met (i : Int) = some true := by
  have hfin : ∀ K i (rows : List Int) (met : List Bool), 2 * (k + r) + 1250 ≤ K → St2 k (k + r) 0 rows met → twoslotlaw03_MatrixCode.j2 K (k : Int) (r : Int) l (allM k r) rows met (i : Int) false = some true := fun K i rows met hK hS => by
    obtain ⟨K, rfl⟩ : ∃ q, K = q + 1 := ⟨K - 1, by omega⟩
    rw [twoslotlaw03_MatrixCode.j2, if_neg (by decide)]
    exact code_l1 h1 h2 h3 h4 (k + r) K 0 rows met (by omega) (by omega) hS
  intro d
  induction d with
  | zero =>
    intro K i rows met hi hK hS
    obtain ⟨K, rfl⟩ : ∃ q, K = q + 1 := ⟨K - 1, by omega⟩
    rw [twoslotlaw03_MatrixCode.l0, if_neg (by omega)]
    exact hfin K i rows met (by omega) hS
  | succ d ih =>
    intro K i rows met hi hK hS
    obtain ⟨K, rfl⟩ : ∃ q, K = q + 1 := ⟨K - 1, by omega⟩
    rw [twoslotlaw03_MatrixCode.l0, if_pos (by omega)]
    by_cases hlt : rows.length < k
    case neg =>
      rw [show decide ((rows.length : Int) < (k : Int)) = false from decide_eq_false (by omega)]
      exact hfin K i rows met (by omega) hS
    rw [show decide ((rows.length : Int) < (k : Int)) = true from decide_eq_true (by omega)]
    obtain ⟨K, rfl⟩ : ∃ q, K = q + 1 := ⟨K - 1, by omega⟩
    have hn0 : (0 : Int) < ((k + r : Nat) : Int) := by omega
    have t1 := Int.tmod_lt_of_pos (rd l (i : Int)) hn0
    have t2 := Int.lt_tmod_of_pos (rd l (i : Int)) hn0
    have hw1 : wrap64 (wrap64 (Int.tmod (rd l (i : Int)) ((k + r : Nat) : Int) + (k : Int)) + (r : Int)) = Int.tmod (rd l (i : Int)) ((k + r : Nat) : Int) + ((k + r : Nat) : Int) := by
      generalize Int.tmod (rd l (i : Int)) ((k + r : Nat) : Int) = t at t1 t2
      rw [show wrap64 (t + (k : Int)) = t + (k : Int) by unfold wrap64; omega]
      unfold wrap64; omega
    rw [twoslotlaw03_MatrixCode.j2, if_pos rfl, if_pos (by omega), if_pos (by omega), wkr h1 h2 h3 h4, if_neg (by omega), hw1]
    have t3 := Int.tmod_nonneg (a := Int.tmod (rd l (i : Int)) ((k + r : Nat) : Int) + ((k + r : Nat) : Int)) ((k + r : Nat) : Int) (by omega)
    have t4 := Int.tmod_lt_of_pos (Int.tmod (rd l (i : Int)) ((k + r : Nat) : Int) + ((k + r : Nat) : Int)) hn0
    generalize Int.tmod (Int.tmod (rd l (i : Int)) ((k + r : Nat) : Int) + ((k + r : Nat) : Int)) ((k + r : Nat) : Int) = x at t3 t4
    obtain ⟨e, rfl⟩ := Int.eq_ofNat_of_zero_le t3
    have he : e < k + r := by omega
    have hwi : wrap64 ((i : Int) + 1) = ((i + 1 : Nat) : Int) := by unfold wrap64; omega
    rw [if_pos t3, hS.ml, if_pos t4, hwi]
    have hiff := hS.iff e (Nat.zero_le _) he
    by_cases hm : rdOf false met (e : Int) = true
    · rw [if_pos hm]
      exact ih K (i + 1) rows met (by omega) (by omega) hS
    · rw [if_neg hm, if_pos (by omega), Int.toNat_natCast]
      have hni : ¬ (e : Int) ∈ rows := fun z => hm (hiff.2 z)
      refine ih K (i + 1) (rows ++ [(e : Int)]) (met.set e true) (by omega) (by omega) ⟨by rw [List.length_set]; exact hS.ml, ?_, by rw [List.length_append]; simp; omega, fun x hx => ?_, fun j h5 h6 => ?_, fun j h5 => by omega⟩
      · rw [List.nodup_append]
        exact ⟨hS.nd, by simp, fun a ha b hb z => hni (by rw [List.mem_singleton] at hb; rw [← hb, ← z]; exact ha)⟩
      · rcases List.mem_append.1 hx with h | h
        · exact hS.rg x h
        · rw [List.mem_singleton] at h; omega
      · rw [rdOf_set (by rw [hS.ml]; exact he), List.mem_append, List.mem_singleton]
        by_cases ej : j = e
        · rw [if_pos ej]; exact ⟨fun _ => .inr (by omega), fun _ => rfl⟩
        · rw [if_neg ej, hS.iff j h5 h6]
          constructor
          · exact fun z => .inl z
          · rintro (z | z)
            · exact z
            · omega
end
theorem code_law (a b : Int) {l : List Int} (hl : l.length ≤ 9223372036854775807) {k0 : Nat} (hk0 : 1400 ≤ k0) : ∃ K, twoslotlaw03_MatrixCode.f K a b l = some true := by
  by_cases h : 1 ≤ a ∧ a ≤ 12 ∧ 1 ≤ b ∧ b ≤ 4
  · obtain ⟨k, rfl⟩ := Int.eq_ofNat_of_zero_le (show 0 ≤ a by omega)
    obtain ⟨r, rfl⟩ := Int.eq_ofNat_of_zero_le (show 0 ≤ b by omega)
    have h1 : 1 ≤ k := by omega
    have h2 : k ≤ 12 := by omega
    have h3 : 1 ≤ r := by omega
    have h4 : r ≤ 4 := by omega
    obtain ⟨K, hK⟩ : ∃ K, 2 * l.length + 2 * (k + r) + k0 ≤ K := ⟨_, Nat.le_refl _⟩
    refine ⟨K + 1, ?_⟩
    unfold twoslotlaw03_MatrixCode.f
    rw [alive_f (by omega), Option.bind_some, if_pos rfl, cauchy_f h1 h2 h3 h4, Option.bind_some]
    dsimp only
    rw [if_pos rfl, one_f h1 (by omega), Option.bind_some]
    dsimp only
    rw [if_pos rfl, (rect_mkF _ _ _).1, show ((r : Int) != (r : Int)) = false from bne_self_eq_false _, twoslotlaw03_MatrixCode.j0, if_neg (by decide), (rect_mkF _ _ _).1, (rect_mkF _ _ _).1, if_pos (by omega), wkr h1 h2 h3 h4, if_pos (by omega), if_pos (by omega), Int.toNat_natCast]
    refine code_l0 h1 h2 h3 h4 l hl l.length K 0 [] _ (by omega) (by omega) ⟨by simp, by simp, by simp, (fun x hx => by cases hx), fun j h5 h6 => ?_, fun j h5 => by omega⟩
    simp [rdOf, h6]
  · refine ⟨k0, ?_⟩
    unfold twoslotlaw03_MatrixCode.f
    rw [alive_f (by omega), Option.bind_some, if_pos rfl, cauchy_bad h, Option.bind_some]
    dsimp only
    rw [if_neg (by decide)]
    rfl
theorem MatrixCode : twoslotlaw03_MatrixCode.Pure := fun a b l _ _ hl _ _ => by
  obtain ⟨k0, hk0⟩ : ∃ k0, 1400 ≤ k0 := ⟨1400, Nat.le_refl _⟩
  exact code_law a b hl hk0
end Go.Proofs.Ytmeckhfoajfapaa.Pure
