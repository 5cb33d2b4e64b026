/- The plain law of CellNewest. No condition. -/
import Derived.Test.YtihefjdabjmmaaaCellGood
import Derived.Test.YtihefjdabjmmaaaSlotQ
namespace Go.Proofs.Ytihefjdabjmmaaa.Pure
open Go Go.RowKit Go.Proofs.Ytihefjdabjmmaaa Go.Proofs.Ytihefjdabjmmaaa.PD Go.Proofs.YtihefjdabjmmaaaW.PrintWords Go.Proofs.YtihefjdabjmmaaaW.PrintLast Go.Proofs.YtihefjdabjmmaaaW.PrintMore
theorem look_cases {k : Nat} (hk : 200 ≤ k) {a b c d : Int} {l0 l1 : List Int} (hB0 : isB l0) (hB1 : isB l1) (kind index : Int)
    {x1 x2 x3 x4 : Int} {x5 x6 : List Int} {x7 : Bool} {xe : Int} {y1 y2 y3 y4 : Int} {y5 y6 : List Int} {y7 : Bool} {ye : Int}
    (hX : prs a b c d l0 = (x1, x2, x3, x4, x5, x6, x7, xe)) (hY : prs a b c d l1 = (y1, y2, y3, y4, y5, y6, y7, ye)) :
    (∃ e, e ≠ 0 ∧ cell_look.f k a b c d l0 l1 kind index = some (cell_look.zero e)) ∨
    (xe = 0 ∧ ye = 0 ∧ cell_look.f k a b c d l0 l1 kind index = some (x1, x2, x3, x4, x5, x6, (x7 && (x2 == index)), y1, y2, y3, y4, y5, y6, (y7 && (y2 == index)), 0)) := by
  unfold cell_look.f
  rw [drives_f (by omega)]
  simp only [Option.bind_some]
  by_cases hp : pOk a b c d
  case neg => rw [if_neg hp, if_neg (by decide)]; exact .inl ⟨2, by decide, rfl⟩
  rw [if_pos hp]
  simp only [if_true]
  rw [parse_f (by omega) a b c d hB0, parse_f (by omega) a b c d hB1, hX, hY]
  simp only [Option.bind_some]
  by_cases h0 : xe = 0
  case neg => rw [if_neg h0]; exact .inl ⟨xe, h0, rfl⟩
  rw [if_pos h0]
  by_cases h1 : ye = 0
  case neg => rw [if_neg h1]; exact .inl ⟨ye, h1, rfl⟩
  rw [if_pos h1]
  by_cases h2 : (kind ≠ 1 ∧ kind ≠ 2) ∨ index < 0 ∨ index ≥ a + b
  · rw [if_pos h2]; exact .inl ⟨2, by decide, rfl⟩
  · rw [if_neg h2]; exact .inr ⟨h0, h1, rfl⟩
theorem prs_cell {a b c d : Int} {l : List Int} (hB : isB l) {x1 x2 x3 x4 : Int} {x5 x6 : List Int} {x7 : Bool} {xe : Int} (hX : prs a b c d l = (x1, x2, x3, x4, x5, x6, x7, xe)) (h : x7 = true) : 1 ≤ x3 ∧ x3 ≤ 1073741824 := by
  rcases prs_cases (a := a) (b := b) (c := c) (d := d) hB with ⟨e, h1⟩ | ⟨q1, q2, q3, q4, q5, q6, h1, _, hm, _⟩
  · rw [hX] at h1
    simp only [Prod.mk.injEq] at h1
    rw [h1.2.2.2.2.2.2.1] at h; cases h
  · rw [hX] at h1
    simp only [Prod.mk.injEq] at h1
    have := (may_all hm).2.2.1
    rw [h1.2.2.1]; exact this
theorem newest_plain {k : Nat} (hk : 200 ≤ k) (a b c d : Int) {l0 l1 : List Int} (hB0 : isB l0) (hB1 : isB l1) (kind index : Int) :
    ∃ (n t1 t2 t3 t4 : Int) (t5 t6 : List Int) (is : Bool) (e o f x1 x2 x3 x4 : Int) (x5 x6 : List Int) (x7 : Bool) (xe y1 y2 y3 y4 : Int) (y5 y6 : List Int) (y7 : Bool) (ye : Int),
      cell_Newest.f k a b c d l0 l1 kind index = some (n, t1, t2, t3, t4, t5, t6, is, e) ∧ cell_Older.f k a b c d l0 l1 kind index 0 = some (o, f) ∧
      slot_Parse.f k a b c d l0 = some (x1, x2, x3, x4, x5, x6, x7, xe) ∧ slot_Parse.f k a b c d l1 = some (y1, y2, y3, y4, y5, y6, y7, ye) ∧
      (e ≠ 0 ∨ f ≠ 0 → f = e ∧ is = false ∧ n = 0 ∧ o = 0) ∧ (e = 0 → f = 0 → xe = 0 ∧ ye = 0) ∧
      (e = 0 → f = 0 → ((x7 && (x2 == index)) = false → o = 0) ∧ ((x7 && (x2 == index)) = true → (y7 && (y2 == index)) = false → o = 1) ∧ ((x7 && (x2 == index)) = true → (y7 && (y2 == index)) = true → o = if x3 ≤ y3 then 0 else 1)) ∧
      (e = 0 → f = 0 → is = false → ¬ ((x7 && (x2 == index)) = true ∧ x1 = kind) ∧ ¬ ((y7 && (y2 == index)) = true ∧ y1 = kind)) ∧
      (e = 0 → f = 0 → is = true → cell_Find.f k a b c d l0 l1 kind index t3 = some (n, t1, t2, t3, t4, t5, t6, true, 0) ∧ ((x7 && (x2 == index)) = true → x1 = kind → x3 ≤ t3) ∧ ((y7 && (y2 == index)) = true → y1 = kind → y3 ≤ t3)) := by
  rcases hX : prs a b c d l0 with ⟨x1, x2, x3, x4, x5, x6, x7, xe⟩
  rcases hY : prs a b c d l1 with ⟨y1, y2, y3, y4, y5, y6, y7, ye⟩
  have pX : slot_Parse.f k a b c d l0 = some (x1, x2, x3, x4, x5, x6, x7, xe) := by rw [parse_f (by omega) a b c d hB0, hX]
  have pY : slot_Parse.f k a b c d l1 = some (y1, y2, y3, y4, y5, y6, y7, ye) := by rw [parse_f (by omega) a b c d hB1, hY]
  rcases look_cases hk hB0 hB1 kind index hX hY with ⟨e, he, hl⟩ | ⟨h0, h1, hl⟩
  · refine ⟨0, 0, 0, 0, 0, [], [], false, e, 0, e, x1, x2, x3, x4, x5, x6, x7, xe, y1, y2, y3, y4, y5, y6, y7, ye, ?_, ?_, pX, pY, fun _ => ⟨rfl, rfl, rfl, rfl⟩, fun z => absurd z he, fun z => absurd z he, fun z => absurd z he, fun z => absurd z he⟩
    · unfold cell_Newest.f; rw [hl]; simp only [Option.bind_some, cell_look.zero, if_neg he]
    · unfold cell_Older.f; rw [hl]; simp only [Option.bind_some, cell_look.zero, if_neg he]
  · have hr : (x7 && (x2 == index)) = true → 1 ≤ x3 ∧ x3 ≤ 1073741824 := fun z => prs_cell hB0 hX (by simp only [Bool.and_eq_true] at z; exact z.1)
    have hs : (y7 && (y2 == index)) = true → 1 ≤ y3 ∧ y3 ≤ 1073741824 := fun z => prs_cell hB1 hY (by simp only [Bool.and_eq_true] at z; exact z.1)
    rcases hN : cell_Newest.of x1 x2 x3 x4 x5 x6 (x7 && (x2 == index)) y1 y2 y3 y4 y5 y6 (y7 && (y2 == index)) kind with ⟨n, t1, t2, t3, t4, t5, t6, is, e⟩
    obtain ⟨rfl, hn1, hn2⟩ := newest_good hr hs hN
    have ho := older_good x1 x3 (x7 && (x2 == index)) y1 y3 (y7 && (y2 == index)) kind
    refine ⟨n, t1, t2, t3, t4, t5, t6, is, 0, _, 0, x1, x2, x3, x4, x5, x6, x7, xe, y1, y2, y3, y4, y5, y6, y7, ye, ?_, ?_, pX, pY, fun z => absurd z (by decide), fun _ _ => ⟨h0, h1⟩, fun _ _ => ho, fun _ _ => hn1, fun _ _ hi => ?_⟩
    · unfold cell_Newest.f; rw [hl]; simp only [Option.bind_some, if_true]; rw [hN]
    · unfold cell_Older.f; rw [hl]; simp only [Option.bind_some, if_true]; rw [if_neg (by decide)]
    · obtain ⟨q1, q2, q3, q4, q5⟩ := hn2 hi
      refine ⟨?_, q4, q5⟩
      unfold cell_Find.f
      rw [hl]
      simp only [Option.bind_some, if_true]
      rw [if_neg (by omega), q3]
theorem awake_plain {k : Nat} (hk : 200 ≤ k) : cell_Older.f k 2 1 16 8 [] [] 1 0 0 = some (0, 0) ∧ cell_Newest.f k 2 1 16 8 [] [] 9 0 = some (0, 0, 0, 0, 0, [], [], false, 2) := by
  have hz : prs 2 1 16 8 [] = (0, 0, 0, 0, [], [], false, 0) := by unfold prs; rw [if_pos (by decide), if_pos (show ([] : List Int).length = 0 from rfl)]
  have hB : isB [] := fun x hx => by cases hx
  have hd : ∀ kind index, cell_look.f k 2 1 16 8 [] [] kind index = some (if (kind ≠ 1 ∧ kind ≠ 2) ∨ index < 0 ∨ index ≥ (3 : Int) then cell_look.zero 2 else (0, 0, 0, 0, [], [], false, 0, 0, 0, 0, [], [], false, 0)) := by
    intro kind index
    unfold cell_look.f
    rw [drives_f (by omega), if_pos (by decide), parse_f (by omega) 2 1 16 8 hB, hz]
    simp only [Option.bind_some, if_true, Bool.false_and]
    by_cases h : (kind ≠ 1 ∧ kind ≠ 2) ∨ index < 0 ∨ index ≥ (3 : Int)
    · rw [if_pos h]; exact if_pos h
    · rw [if_neg h]; exact if_neg h
  constructor
  · unfold cell_Older.f; rw [hd]; rfl
  · unfold cell_Newest.f; rw [hd]; rfl
end Go.Proofs.Ytihefjdabjmmaaa.Pure
