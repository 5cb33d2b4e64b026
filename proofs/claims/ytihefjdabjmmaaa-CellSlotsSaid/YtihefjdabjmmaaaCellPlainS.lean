/- The plain law of CellSlots. No condition. -/
import Derived.Test.YtihefjdabjmmaaaCellPlainK
import Derived.Test.YtihefjdabjmmaaaCellFind
import Derived.Test.YtihefjdabjmmaaaCellNew
import Derived.Test.YtihefjdabjmmaaaCellOld
import Derived.Test.YtihefjdabjmmaaaCellLook
import Derived.Test.YtihefjdabjmmaaaSlotQ
import Derived.Test.YtihefjdabjmmaaaSlotRa
import Derived.Test.YtihefjdabjmmaaaCellRead
import Derived.Test.YtihefjdabjmmaaaPDx13
import Derived.Test.YtihefjdabjmmaaaPDx15
import Derived.Test.YtihefjdabjmmaaaPDx10
import Derived.Test.YtihefjdabjmmaaaCellRNew
import Derived.Test.YtihefjdabjmmaaaCellRFind
import Derived.Test.YtihefjdabjmmaaaCellRAsk
import Derived.Test.YtihefjdabjmmaaaCellROf
import Derived.Test.YtihefjdabjmmaaaCellRNext
namespace Go.Proofs.Ytihefjdabjmmaaa.Pure
open Go Go.RowKit Go.Proofs.Ytihefjdabjmmaaa Go.Proofs.Ytihefjdabjmmaaa.PD Go.Proofs.YtihefjdabjmmaaaW.PrintWords Go.Proofs.YtihefjdabjmmaaaW.PrintLast Go.Proofs.YtihefjdabjmmaaaW.PrintMore
theorem kb_size' {l : List Int} (hB : isB l) (h : l.length ≤ 140737488351232) : (strOfNums l).size ≤ 140737488351232 := by
  have h1 := congrArg List.length (kb_str hB)
  rw [bytesOf_length] at h1
  omega
/-- may a slot have this length -/
def lOk (a b c : Int) (l : List Int) : Prop := (l.length : Int) = 0 ∨ (l.length : Int) = 12 + 4 * (a + b) + c
instance (a b c : Int) (l : List Int) : Decidable (lOk a b c l) := by unfold lOk; infer_instance
theorem prs_err {a b c d : Int} (hp : pOk a b c d) (l : List Int) : (prs a b c d l).2.2.2.2.2.2.2 = if lOk a b c l then 0 else 100 := by
  unfold prs
  rw [if_pos hp]
  by_cases h0 : l.length = 0
  · rw [if_pos h0, if_pos (show lOk a b c l from Or.inl (by omega))]
  rw [if_neg h0]
  by_cases h1 : (l.length : Int) = 12 + 4 * (a + b) + c
  · rw [if_pos h1, if_pos (show lOk a b c l from Or.inr h1)]
    by_cases h2 : rd l 0 = 84 ∧ rd l 1 = 50
    · rw [if_pos h2]; unfold psd; split <;> rfl
    · rw [if_neg h2]
  · rw [if_neg h1, if_neg (show ¬ lOk a b c l from fun z => by unfold lOk at z; omega)]
theorem rread_prs {k : Nat} (hk : 100 ≤ k) {a b c d : Int} (hp : pOk a b c d) {l : List Int} (hB : isB l) (h : lOk a b c l) : twoslotref10_Read.f k a b c d l = some (cut7 (prs a b c d l)) := by
  rw [rread_f hk hp hB]
  unfold prs
  rw [if_pos hp]
  have hpp := hp
  unfold pOk at hpp
  unfold lOk at h
  by_cases h0 : l.length = 0
  · rw [if_pos h0, if_neg (fun z => by omega)]; rfl
  rw [if_neg h0]
  have h1 : (l.length : Int) = 12 + 4 * (a + b) + c := by omega
  rw [if_pos h1]
  by_cases h2 : rd l 0 = 84 ∧ rd l 1 = 50
  · rw [if_pos ⟨h1, h2⟩, if_pos h2]
  · rw [if_neg (fun z => h2 z.2), if_neg h2]; rfl
/-- what look tells: the error first -/
theorem look_all {k : Nat} (hk : 200 ≤ k) {a b c d : Int} {l0 l1 : List Int} (hB0 : isB l0) (hB1 : isB l1) (kind index : Int) :
    cell_look.f k a b c d l0 l1 kind index = some (if ¬ pOk a b c d then cell_look.zero 2 else if ¬ (lOk a b c l0 ∧ lOk a b c l1) then cell_look.zero 100 else if (kind ≠ 1 ∧ kind ≠ 2) ∨ index < 0 ∨ index ≥ a + b then cell_look.zero 2 else
      ((prs a b c d l0).1, (prs a b c d l0).2.1, (prs a b c d l0).2.2.1, (prs a b c d l0).2.2.2.1, (prs a b c d l0).2.2.2.2.1, (prs a b c d l0).2.2.2.2.2.1, ((prs a b c d l0).2.2.2.2.2.2.1 && ((prs a b c d l0).2.1 == index)),
       (prs a b c d l1).1, (prs a b c d l1).2.1, (prs a b c d l1).2.2.1, (prs a b c d l1).2.2.2.1, (prs a b c d l1).2.2.2.2.1, (prs a b c d l1).2.2.2.2.2.1, ((prs a b c d l1).2.2.2.2.2.2.1 && ((prs a b c d l1).2.1 == index)), 0)) := by
  unfold cell_look.f
  rw [drives_f (by omega)]
  simp only [Option.bind_some]
  by_cases hp : pOk a b c d
  case neg => rw [if_neg hp, if_neg (by decide), if_pos hp]
  rw [if_pos hp, if_neg (show ¬¬ pOk a b c d from fun z => z hp)]
  simp only [if_true]
  rw [parse_f (by omega) a b c d hB0, parse_f (by omega) a b c d hB1]
  simp only [Option.bind_some]
  rw [prs_err hp l0, prs_err hp l1]
  by_cases h0 : lOk a b c l0
  case neg => rw [if_neg h0, if_neg (by decide), if_pos (show ¬(lOk a b c l0 ∧ lOk a b c l1) from fun z => h0 z.1)]
  rw [if_pos h0]
  by_cases h1 : lOk a b c l1
  case neg => rw [if_neg h1, if_pos (by decide), if_neg (by decide), if_pos (show ¬(lOk a b c l0 ∧ lOk a b c l1) from fun z => h1 z.2)]
  rw [if_pos h1, if_pos (by decide), if_pos (by decide), if_neg (show ¬¬(lOk a b c l0 ∧ lOk a b c l1) from fun z => z ⟨h0, h1⟩)]
  by_cases h2 : (kind ≠ 1 ∧ kind ≠ 2) ∨ index < 0 ∨ index ≥ a + b
  · rw [if_pos h2, if_pos h2]
  · rw [if_neg h2, if_neg h2]
theorem rpair_iff {a b c : Int} {l0 l1 : List Int} : rPair.f (12 + 4 * (a + b) + c) l0 l1 = true ↔ lOk a b c l0 ∧ lOk a b c l1 := by
  unfold rPair.f lOk
  simp only [Bool.and_eq_true, Bool.or_eq_true, beq_iff_eq]
/-- what a slot holds of an index: the same flag, and the same cells where the flag is up -/
theorem of_eq (x1 x2 x3 x4 : Int) (x5 x6 : List Int) (x7 : Bool) (index : Int) : rOf.of x1 x2 x3 x4 x5 x6 x7 index = if (x7 && (x2 == index)) = true then (x1, x2, x3, x4, x5, x6, true) else (0, 0, 0, 0, [], [], false) := by
  unfold rOf.of
  cases x7
  · rw [if_neg (fun z => Bool.false_ne_true z.1)]; rfl
  · by_cases h : x2 = index
    · rw [if_pos ⟨rfl, h⟩, if_pos (by rw [h]; simp)]
    · rw [if_neg (fun z => h z.2), if_neg (by simp [h])]
theorem at_cut {x1 x2 x3 x4 : Int} {x5 x6 : List Int} {X7 : Bool} {y1 y2 y3 y4 : Int} {y5 y6 : List Int} {Y7 : Bool} {o1 o2 o3 o4 : Int} {o5 o6 : List Int} {o7 : Bool} {q1 q2 q3 q4 : Int} {q5 q6 : List Int} {q7 : Bool}
    (ho : (if X7 = true then (x1, x2, x3, x4, x5, x6, true) else (0, 0, 0, 0, [], [], false)) = (o1, o2, o3, o4, o5, o6, o7)) (hq : (if Y7 = true then (y1, y2, y3, y4, y5, y6, true) else (0, 0, 0, 0, [], [], false)) = (q1, q2, q3, q4, q5, q6, q7)) (kind version : Int) :
    held_at.f o1 o3 o7 q1 q3 q7 kind version = held_at.f x1 x3 X7 y1 y3 Y7 kind version ∧
    cell_Find.of (held_at.f o1 o3 o7 q1 q3 q7 kind version) o1 o2 o3 o4 o5 o6 q1 q2 q3 q4 q5 q6 = cell_Find.of (held_at.f x1 x3 X7 y1 y3 Y7 kind version) x1 x2 x3 x4 x5 x6 y1 y2 y3 y4 y5 y6 ∧
    cell_Newest.of o1 o2 o3 o4 o5 o6 o7 q1 q2 q3 q4 q5 q6 q7 kind = cell_Newest.of x1 x2 x3 x4 x5 x6 X7 y1 y2 y3 y4 y5 y6 Y7 kind ∧
    (∀ keep at_, cell_Older.of at_ o3 o7 q3 q7 keep = cell_Older.of at_ x3 X7 y3 Y7 keep) := by
  cases X7 <;> cases Y7 <;> simp only [if_true, Bool.false_eq_true, if_false, Prod.mk.injEq] at ho hq <;> obtain ⟨rfl, rfl, rfl, rfl, rfl, rfl, rfl⟩ := ho <;> obtain ⟨rfl, rfl, rfl, rfl, rfl, rfl, rfl⟩ := hq
  · refine ⟨rfl, ?_, ?_, fun _ _ => rfl⟩
    · unfold held_at.f; rw [if_neg (fun z => Bool.false_ne_true z.1), if_neg (fun z => Bool.false_ne_true z.1)]; rfl
    · rfl
  · have h0 : held_at.f 0 0 false y1 y3 true kind version = held_at.f x1 x3 false y1 y3 true kind version := by
      unfold held_at.f; simp only [Bool.false_eq_true, false_and, if_false]
    refine ⟨h0, ?_, ?_, fun _ _ => rfl⟩
    · rw [h0]; unfold held_at.f; simp only [Bool.false_eq_true, false_and, if_false]
      by_cases h : True ∧ y1 = kind ∧ y3 = version
      · rw [if_pos h]; rfl
      · rw [if_neg h]; rfl
    · unfold cell_Newest.of; simp only [Bool.false_eq_true, false_and, if_false]
  · have h0 : held_at.f x1 x3 true 0 0 false kind version = held_at.f x1 x3 true y1 y3 false kind version := by
      unfold held_at.f
      by_cases h : true = true ∧ x1 = kind ∧ x3 = version
      · rw [if_pos h, if_pos h]
      · rw [if_neg h, if_neg h, if_neg (fun z => Bool.false_ne_true z.1), if_neg (fun z => Bool.false_ne_true z.1)]
    refine ⟨h0, ?_, ?_, fun _ _ => rfl⟩
    · rw [h0]; unfold held_at.f
      by_cases h : true = true ∧ x1 = kind ∧ x3 = version
      · rw [if_pos h]; rfl
      · rw [if_neg h, if_neg (fun z => Bool.false_ne_true z.1)]; rfl
    · unfold cell_Newest.of
      by_cases h : true = true ∧ x1 = kind ∧ 0 < x3
      · rw [if_pos h, if_pos h, if_neg (fun z => Bool.false_ne_true z.1), if_neg (fun z => Bool.false_ne_true z.1)]
      · rw [if_neg h, if_neg h, if_neg (fun z => Bool.false_ne_true z.1), if_neg (fun z => Bool.false_ne_true z.1)]
  · exact ⟨rfl, rfl, rfl, fun _ _ => rfl⟩
theorem prs_vlen {a b c d : Int} {l : List Int} (hB : isB l) {x1 x2 x3 x4 : Int} {x5 x6 : List Int} {x7 : Bool} {xe : Int} (hX : prs a b c d l = (x1, x2, x3, x4, x5, x6, x7, xe)) : x5.length ≤ 16 := by
  rcases prs_cases (a := a) (b := b) (c := c) (d := d) hB with ⟨e, h1⟩ | ⟨q1, q2, q3, q4, q5, q6, h1, _, hm, _⟩
  · rw [hX] at h1
    simp only [Prod.mk.injEq] at h1
    rw [h1.2.2.2.2.1]; exact Nat.zero_le _
  · rw [hX] at h1
    simp only [Prod.mk.injEq] at h1
    rw [h1.2.2.2.2.1]; exact short hm.1
theorem find_len {at_ : Int} {x1 x2 x3 x4 : Int} {x5 x6 : List Int} {y1 y2 y3 y4 : Int} {y5 y6 : List Int} {n t1 t2 t3 t4 : Int} {t5 t6 : List Int} {t7 : Bool} {te : Int} (h : cell_Find.of at_ x1 x2 x3 x4 x5 x6 y1 y2 y3 y4 y5 y6 = (n, t1, t2, t3, t4, t5, t6, t7, te)) (hx : x5.length ≤ 16) (hy : y5.length ≤ 16) : t5.length ≤ 16 := by
  unfold cell_Find.of at h
  split at h
  · simp only [Prod.mk.injEq] at h; rw [← h.2.2.2.2.2.1]; exact hx
  · split at h
    · simp only [Prod.mk.injEq] at h; rw [← h.2.2.2.2.2.1]; exact hy
    · simp only [Prod.mk.injEq] at h; rw [← h.2.2.2.2.2.1]; exact Nat.zero_le _
theorem newest_len {x1 x2 x3 x4 : Int} {x5 x6 : List Int} {X7 : Bool} {y1 y2 y3 y4 : Int} {y5 y6 : List Int} {Y7 : Bool} {kind : Int} {n t1 t2 t3 t4 : Int} {t5 t6 : List Int} {t7 : Bool} {te : Int} (h : cell_Newest.of x1 x2 x3 x4 x5 x6 X7 y1 y2 y3 y4 y5 y6 Y7 kind = (n, t1, t2, t3, t4, t5, t6, t7, te)) (hx : x5.length ≤ 16) (hy : y5.length ≤ 16) : t5.length ≤ 16 := by
  unfold cell_Newest.of at h
  split at h
  · split at h
    · simp only [Prod.mk.injEq] at h; rw [← h.2.2.2.2.2.1]; exact hy
    · simp only [Prod.mk.injEq] at h; rw [← h.2.2.2.2.2.1]; exact hx
  · split at h
    · simp only [Prod.mk.injEq] at h; rw [← h.2.2.2.2.2.1]; exact hy
    · simp only [Prod.mk.injEq] at h; rw [← h.2.2.2.2.2.1]; exact Nat.zero_le _
theorem next_eq {x1 x3 : Int} {X7 : Bool} {y1 y3 : Int} {Y7 : Bool} {kind keep : Int} (hx : X7 = true → 1 ≤ x3) (hy : Y7 = true → 1 ≤ y3) (_h0 : 0 ≤ keep) :
    cell_Older.of (held_at.f x1 x3 X7 y1 y3 Y7 kind keep) x3 X7 y3 Y7 keep = rNext.f (held_at.f x1 x3 X7 y1 y3 Y7 kind keep) x3 X7 y3 Y7 := by
  unfold cell_Older.of rNext.f
  by_cases h1 : 0 ≤ held_at.f x1 x3 X7 y1 y3 Y7 kind keep
  · rw [if_pos h1]
    have : 0 < keep := by
      unfold held_at.f at h1
      split at h1
      · rename_i hh; have := hx hh.1; omega
      · split at h1
        · rename_i hh; have := hy hh.1; omega
        · exact absurd h1 (by decide)
    rw [if_pos ⟨this, h1⟩]
  · rw [if_neg h1, if_neg (fun z => h1 z.2)]
theorem slots_plain {k : Nat} (hk : 200 ≤ k) (a b c d : Int) {l0 l1 : List Int} (hB0 : isB l0) (hB1 : isB l1) (kind index version : Int) :
    ∃ (m : Bool) (sz nn : Int) (vr : Bool) (e r1 r2 r3 r4 : Int) (r5 r6 : List Int) (r7 : Bool) (o1 o2 o3 o4 : Int) (o5 o6 : List Int) (o7 : Bool) (s1 s2 s3 s4 : Int) (s5 s6 : List Int) (s7 : Bool) (q1 q2 q3 q4 : Int) (q5 q6 : List Int) (q7 : Bool)
      (n t1 t2 t3 t4 : Int) (t5 t6 : List Int) (t7 : Bool) (te : Int) (g u1 u2 u3 u4 : Int) (u5 u6 : List Int) (u7 : Bool) (ue : Int) (x xe : Int),
      (twoslotref06_May.f a b c d = some m ∧ twoslotref06_Size.f a b c d = some sz ∧ twoslotref06_N.f a b c d = some nn ∧ rAsked.f m sz nn l0 l1 kind index = e ∧ twoslotref10_Version.f version = some vr) ∧
      (e = 0 → twoslotref10_Read.f k a b c d l0 = some (r1, r2, r3, r4, r5, r6, r7) ∧ twoslotref10_Read.f k a b c d l1 = some (s1, s2, s3, s4, s5, s6, s7)) ∧ rOf.of r1 r2 r3 r4 r5 r6 r7 index = (o1, o2, o3, o4, o5, o6, o7) ∧ rOf.of s1 s2 s3 s4 s5 s6 s7 index = (q1, q2, q3, q4, q5, q6, q7) ∧
      (cell_Find.f k a b c d l0 l1 kind index version = some (n, t1, t2, t3, t4, t5, t6, t7, te) ∧ rFind.f e vr (cell_Find.of (held_at.f o1 o3 o7 q1 q3 q7 kind version) o1 o2 o3 o4 o5 o6 q1 q2 q3 q4 q5 q6) = (n, t1, t2, t3, t4, t5, t6, t7, te) ∧ twoslotref10_Same.f k t1 t2 t3 t4 t5 t6 t1 t2 t3 t4 t5 t6 = some true) ∧
      (cell_Newest.f k a b c d l0 l1 kind index = some (g, u1, u2, u3, u4, u5, u6, u7, ue) ∧ rNewest.f e (cell_Newest.of o1 o2 o3 o4 o5 o6 o7 q1 q2 q3 q4 q5 q6 q7 kind) = (g, u1, u2, u3, u4, u5, u6, u7, ue) ∧ twoslotref10_Same.f k u1 u2 u3 u4 u5 u6 u1 u2 u3 u4 u5 u6 = some true) ∧
      (cell_Older.f k a b c d l0 l1 kind index version = some (x, xe) ∧ rOlder.f e vr (held_at.f o1 o3 o7 q1 q3 q7 kind version) o3 o7 q3 q7 version = (x, xe)) := by
  have hzs : twoslotref10_Same.f k 0 0 0 0 [] [] 0 0 0 0 [] [] = some true := same_refl (by simp; omega) (by decide) _ _ _ _
  have hl := look_all hk hB0 hB1 (a := a) (b := b) (c := c) (d := d) kind index
  have hv := rversion_f version
  by_cases hp : pOk a b c d
  case neg =>
    rw [if_pos hp] at hl
    have hm := rmay06_f a b c d
    rw [decide_eq_false hp] at hm
    obtain ⟨nn, hn⟩ : ∃ nn, twoslotref06_N.f a b c d = some nn := ⟨_, rfl⟩
    obtain ⟨sz, hs⟩ : ∃ sz, twoslotref06_Size.f a b c d = some sz := ⟨_, rfl⟩
    refine ⟨false, sz, nn, _, 2, 0, 0, 0, 0, [], [], false, 0, 0, 0, 0, [], [], false, 0, 0, 0, 0, [], [], false, 0, 0, 0, 0, [], [], false, 0, 0, 0, 0, 0, [], [], false, 2, 0, 0, 0, 0, 0, [], [], false, 2, 0, 2, ⟨hm, hs, hn, rfl, hv⟩, fun z => absurd z (by decide), rfl, rfl, ⟨?_, rfl, hzs⟩, ⟨?_, rfl, hzs⟩, ?_, rfl⟩
    · unfold cell_Find.f; rw [hl]; rfl
    · unfold cell_Newest.f; rw [hl]; rfl
    · unfold cell_Older.f; rw [hl]; rfl
  rw [if_neg (fun z => z hp)] at hl
  have hm := rmay06_f a b c d
  rw [decide_eq_true hp] at hm
  have hn := rn_f hp
  have hs := rsize06_f hp
  by_cases hlo : lOk a b c l0 ∧ lOk a b c l1
  case neg =>
    rw [if_pos hlo] at hl
    have he : rAsked.f true (12 + 4 * (a + b) + c) (a + b) l0 l1 kind index = 100 := by
      unfold rAsked.f
      rw [if_neg (by decide), if_pos (Bool.eq_false_iff.mpr (fun z => hlo (rpair_iff.1 z)))]
    refine ⟨true, _, _, _, 100, 0, 0, 0, 0, [], [], false, 0, 0, 0, 0, [], [], false, 0, 0, 0, 0, [], [], false, 0, 0, 0, 0, [], [], false, 0, 0, 0, 0, 0, [], [], false, 100, 0, 0, 0, 0, 0, [], [], false, 100, 0, 100, ⟨hm, hs, hn, he, hv⟩, fun z => absurd z (by decide), rfl, rfl, ⟨?_, rfl, hzs⟩, ⟨?_, rfl, hzs⟩, ?_, rfl⟩
    · unfold cell_Find.f; rw [hl]; rfl
    · unfold cell_Newest.f; rw [hl]; rfl
    · unfold cell_Older.f; rw [hl]; rfl
  rw [if_neg (fun z => z hlo)] at hl
  have hpair := rpair_iff.2 hlo
  by_cases hbad : (kind ≠ 1 ∧ kind ≠ 2) ∨ index < 0 ∨ index ≥ a + b
  · rw [if_pos hbad] at hl
    have he : rAsked.f true (12 + 4 * (a + b) + c) (a + b) l0 l1 kind index = 2 := by
      unfold rAsked.f
      rw [if_neg (by decide), if_neg (by rw [hpair]; decide), if_pos hbad]
    refine ⟨true, _, _, _, 2, 0, 0, 0, 0, [], [], false, 0, 0, 0, 0, [], [], false, 0, 0, 0, 0, [], [], false, 0, 0, 0, 0, [], [], false, 0, 0, 0, 0, 0, [], [], false, 2, 0, 0, 0, 0, 0, [], [], false, 2, 0, 2, ⟨hm, hs, hn, he, hv⟩, fun z => absurd z (by decide), rfl, rfl, ⟨?_, rfl, hzs⟩, ⟨?_, rfl, hzs⟩, ?_, rfl⟩
    · unfold cell_Find.f; rw [hl]; rfl
    · unfold cell_Newest.f; rw [hl]; rfl
    · unfold cell_Older.f; rw [hl]; rfl
  rw [if_neg hbad] at hl
  have he : rAsked.f true (12 + 4 * (a + b) + c) (a + b) l0 l1 kind index = 0 := by
    unfold rAsked.f
    rw [if_neg (by decide), if_neg (by rw [hpair]; decide), if_neg hbad]
  have hr0 := rread_prs (k := k) (by omega) hp hB0 hlo.1
  have hr1 := rread_prs (k := k) (by omega) hp hB1 hlo.2
  rcases hX : prs a b c d l0 with ⟨x1, x2, x3, x4, x5, x6, x7, xe⟩
  rcases hY : prs a b c d l1 with ⟨y1, y2, y3, y4, y5, y6, y7, ye⟩
  rw [hX, hY] at hl
  rw [hX] at hr0
  rw [hY] at hr1
  simp only [cut7] at hr0 hr1
  dsimp only at hl
  have hx16 := prs_vlen hB0 hX
  have hy16 := prs_vlen hB1 hY
  have hrx : (x7 && (x2 == index)) = true → 1 ≤ x3 := fun z => (prs_cell hB0 hX (by simp only [Bool.and_eq_true] at z; exact z.1)).1
  have hry : (y7 && (y2 == index)) = true → 1 ≤ y3 := fun z => (prs_cell hB1 hY (by simp only [Bool.and_eq_true] at z; exact z.1)).1
  rcases hO : rOf.of x1 x2 x3 x4 x5 x6 x7 index with ⟨o1, o2, o3, o4, o5, o6, o7⟩
  rcases hQ : rOf.of y1 y2 y3 y4 y5 y6 y7 index with ⟨q1, q2, q3, q4, q5, q6, q7⟩
  have hO' := hO
  have hQ' := hQ
  rw [of_eq] at hO' hQ'
  obtain ⟨e1, e2, e3, e4⟩ := at_cut hO' hQ' kind version
  have hfv : cell_Find.f k a b c d l0 l1 kind index version = some (if version < 1 ∨ 1073741824 < version then (0, 0, 0, 0, 0, [], [], false, 2) else cell_Find.of (held_at.f o1 o3 o7 q1 q3 q7 kind version) o1 o2 o3 o4 o5 o6 q1 q2 q3 q4 q5 q6) := by
    unfold cell_Find.f
    rw [hl]
    simp only [Option.bind_some, if_true]
    by_cases h : version < 1 ∨ 1073741824 < version
    · rw [if_pos h, if_pos h]
    · rw [if_neg h, if_neg h, e2]
  have hnv : cell_Newest.f k a b c d l0 l1 kind index = some (cell_Newest.of o1 o2 o3 o4 o5 o6 o7 q1 q2 q3 q4 q5 q6 q7 kind) := by
    unfold cell_Newest.f
    rw [hl]
    simp only [Option.bind_some, if_true]
    rw [e3]
  have hvr : (!hBad version) = false ↔ version < 1 ∨ 1073741824 < version := by
    rw [Bool.not_eq_false']
    unfold hBad
    simp
  rcases hF : (if version < 1 ∨ 1073741824 < version then ((0, 0, 0, 0, 0, [], [], false, 2) : PD.Found) else cell_Find.of (held_at.f o1 o3 o7 q1 q3 q7 kind version) o1 o2 o3 o4 o5 o6 q1 q2 q3 q4 q5 q6) with ⟨n, t1, t2, t3, t4, t5, t6, t7, te⟩
  rcases hN : cell_Newest.of o1 o2 o3 o4 o5 o6 o7 q1 q2 q3 q4 q5 q6 q7 kind with ⟨g, u1, u2, u3, u4, u5, u6, u7, ue⟩
  rw [hF] at hfv
  rw [hN] at hnv
  have ht16 : t5.length ≤ 16 := by
    by_cases h : version < 1 ∨ 1073741824 < version
    · rw [if_pos h] at hF
      simp only [Prod.mk.injEq] at hF; rw [← hF.2.2.2.2.2.1]; exact Nat.zero_le _
    · rw [if_neg h, e2] at hF; exact find_len hF hx16 hy16
  have hu16 : u5.length ≤ 16 := by rw [e3] at hN; exact newest_len hN hx16 hy16
  have hof : cell_Older.f k a b c d l0 l1 kind index version = some (rOlder.f 0 (!hBad version) (held_at.f o1 o3 o7 q1 q3 q7 kind version) o3 o7 q3 q7 version) := by
    unfold cell_Older.f rOlder.f
    rw [hl]
    simp only [Option.bind_some, if_true]
    rw [if_neg (show ¬((0 : Int) ≠ 0) from fun z => z rfl)]
    by_cases h : version < 0 ∨ 1073741824 < version
    · rw [if_pos h, if_pos ⟨by omega, hvr.2 (by omega)⟩]
    · rw [if_neg h, if_neg (fun z => by have := hvr.1 z.2; have := z.1; omega), next_eq hrx hry (by omega), e1]
      have := e4 version (-1)
      unfold cell_Older.of at this
      rw [if_neg (show ¬(0 < version ∧ (0 : Int) ≤ -1) from fun z => absurd z.2 (by decide)), if_neg (show ¬(0 < version ∧ (0 : Int) ≤ -1) from fun z => absurd z.2 (by decide))] at this
      unfold rNext.f
      by_cases h1 : 0 ≤ held_at.f x1 x3 (x7 && (x2 == index)) y1 y3 (y7 && (y2 == index)) kind version
      · rw [if_pos h1, if_pos h1]
      · rw [if_neg h1, if_neg h1]; exact congrArg (fun z => some (z, (0 : Int))) this.symm
  rcases hP : rOlder.f 0 (!hBad version) (held_at.f o1 o3 o7 q1 q3 q7 kind version) o3 o7 q3 q7 version with ⟨x, xe'⟩
  rw [hP] at hof
  refine ⟨true, _, _, _, 0, x1, x2, x3, x4, x5, x6, x7, o1, o2, o3, o4, o5, o6, o7, y1, y2, y3, y4, y5, y6, y7, q1, q2, q3, q4, q5, q6, q7, n, t1, t2, t3, t4, t5, t6, t7, te, g, u1, u2, u3, u4, u5, u6, u7, ue, x, xe', ⟨hm, hs, hn, he, hv⟩, fun _ => ⟨hr0, hr1⟩, hO, hQ, ⟨hfv, ?_, same_refl (by omega) (by omega) _ _ _ _⟩, ⟨hnv, ?_, same_refl (by omega) (by omega) _ _ _ _⟩, hof, hP⟩
  · unfold rFind.f
    rw [if_neg (fun z => z rfl)]
    by_cases h : version < 1 ∨ 1073741824 < version
    · rw [if_pos (hvr.2 h)]; rw [if_pos h] at hF; exact hF
    · rw [if_neg (fun z => h (hvr.1 z))]; rw [if_neg h] at hF; exact hF
  · unfold rNewest.f
    rw [if_neg (fun z => z rfl)]; exact hN
end Go.Proofs.Ytihefjdabjmmaaa.Pure
